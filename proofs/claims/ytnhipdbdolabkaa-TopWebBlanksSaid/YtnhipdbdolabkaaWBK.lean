/- Part of the proof: what the claim leans on. -/
import Derived.Test.YtnhipdbdolabkaaWBJ
import Derived.Test.YtnhipdbdolabkaaWBB
set_option linter.unusedSimpArgs false
set_option linter.unusedVariables false
namespace Go.Proofs.Ytnhipdbdolabkaa
open Go.RowKit
/-- How many knives there are ahead of a web. -/
def cntM (xs : List Int) (j m : Nat) : Nat := cntF xs j + m
theorem knF_atM (os : Nat → To) (xs : List Int) (a0 : Int) {b w : Nat} (hw : w < (elT xs b).toNat) (n : Nat) (h : b < n) : elT (knF os xs a0 n) (cntM xs b w) = atF os xs a0 b + (os b).wd * ((w : Int) + 1) := knF_at os xs a0 hw n h
def rowL (L : List (List Int)) (k : Nat) : List Int := L.getD k []
/-- Knives, as many as they are. -/
def IsKn3 (K : List Int) (n : Nat) (v : Value) (W : World) : Prop := ∃ g c, v = .slice (some ⟨g, 0, none⟩) n c ∧ Ii W (some ⟨g, 0, none⟩) n c K
theorem IsKn3.below {K : List Int} {n : Nat} {v : Value} {W W' : World} (h : IsKn3 K n v W) (hb : Below W.heap.size W W') : IsKn3 K n v W' := by
  obtain ⟨g, c, e, h⟩ := h; exact ⟨g, c, e, h.below hb (Nat.le_refl _)⟩
theorem kn3_of {os : Nat → To} {xs : List Int} {a0 : Int} {v : Value} {W : World} (h : IsKn (knF os xs a0 3) v W) : IsKn3 (knF os xs a0 3) (cntF xs 3) v W := by
  obtain ⟨g, n, c, rfl, e, h⟩ := h
  rw [knF_len] at e; subst e
  exact ⟨g, c, rfl, by have := h.ii; rw [knF_len] at this; exact this⟩
theorem pat_lr {p : Tp} {os : Nat → To} {xs : List Int} (h : patF p os xs 3 = true) : p.tlo ≤ leftF p os xs 3 ∧ leftF p os xs 3 ≤ p.thi := by
  unfold patF at h
  rw [Bool.and_eq_true, Bool.and_eq_true] at h
  exact within1_iff.1 h.2
theorem cnt_all {xs : List Int} (hx : ∀ x ∈ xs, 0 ≤ x ∧ x ≤ 4) : ∀ n, ((cntF xs n : Nat) : Int) = 1 + allF xs n
  | 0 => rfl
  | n + 1 => by
    have h := cnt_all hx n
    have h2 := getD_bd hx (by decide) n
    rw [cntF, allF]; omega
theorem cnt_two {p : Tp} {os : Nat → To} {xs : List Int} (h : patF p os xs 3 = true) (hx : ∀ x ∈ xs, 0 ≤ x ∧ x ≤ 4) (hw : p.webs ≤ 4 := by omega) : 2 ≤ cntF xs 3 ∧ cntF xs 3 ≤ 5 := by
  unfold patF at h
  rw [Bool.and_eq_true, Bool.and_eq_true] at h
  have h1 := within1_iff.1 h.1.1
  have h2 := cnt_all hx 3
  omega
theorem atF_bd3 {p : Tp} {os : Nat → To} {xs : List Int} (hx : ∀ x ∈ xs, 0 ≤ x ∧ x ≤ 4) {a0 : Int} (ha0 : 0 ≤ leftF p os xs 3 ∧ leftF p os xs 3 ≤ 3000) (ho : ∀ i, i < 3 → ToIn (os i)) (e : leftF p os xs 3 / 2 = a0 := by rfl) : ∀ j, j ≤ 3 → 0 ≤ atF os xs a0 j ∧ atF os xs a0 j ≤ 3000 + 12000 * (j : Int)
  | 0, _ => by show 0 ≤ a0 ∧ a0 ≤ _; omega
  | j + 1, h => by
    have ih := atF_bd3 hx ha0 ho e j (by omega)
    have h2 := tr_mul (getD_bd hx (by decide) j) (show 0 ≤ (os j).wd ∧ (os j).wd ≤ 3000 by have := (ho j (by omega)).wd; omega)
    rw [atF]; omega
set_option maxRecDepth 100000 in
set_option maxHeartbeats 40000000 in
theorem web_main (sv : Nat → Int) (p : Tp) (os : Nat → To) (xs : Nat → List Int × Int) (acl all_ : List Int) (L : List (List Int)) (w : World) (hpb : ∀ W, Calls Try.prog 7 #[.agg #[.int .u8 ((sv 0)), .int .u8 ((sv 1)), .int .u8 ((sv 2)), .int .u8 ((sv 3)), .int .u8 ((sv 4)), .int .u8 ((sv 5)), .int .u8 ((sv 6)), .int .u8 ((sv 7)), .int .u8 ((sv 8)), .int .u8 ((sv 9)), .int .u8 ((sv 10)), .int .u8 ((sv 11)), .int .u8 ((sv 12)), .int .u8 ((sv 13)), .int .u8 ((sv 14)), .int .u8 ((sv 15)), .int .u8 ((sv 16)), .int .u8 ((sv 17)), .int .u8 ((sv 18)), .int .u8 ((sv 19)), .int .u8 ((sv 20)), .int .u8 ((sv 21)), .int .u8 ((sv 22)), .int .u8 ((sv 23)), .int .u8 ((sv 24)), .int .u8 ((sv 25)), .int .u8 ((sv 26)), .int .u8 ((sv 27)), .int .u8 ((sv 28)), .int .u8 ((sv 29)), .int .u8 ((sv 30))]] W (fun e w' => ∃ v1 v2 v3, e = .returned (.tuple #[v1, v2, v3, .bool true]) ∧ IsG (acl) v2 w' ∧ IsG (all_) v3 w' ∧ Below W.heap.size W w')) (hrun : ∀ W a c, Ii W a 3 c (all_) → Calls Try.prog 8 #[.agg #[.int .u8 ((sv 0)), .int .u8 ((sv 1)), .int .u8 ((sv 2)), .int .u8 ((sv 3)), .int .u8 ((sv 4)), .int .u8 ((sv 5)), .int .u8 ((sv 6)), .int .u8 ((sv 7)), .int .u8 ((sv 8)), .int .u8 ((sv 9)), .int .u8 ((sv 10)), .int .u8 ((sv 11)), .int .u8 ((sv 12)), .int .u8 ((sv 13)), .int .u8 ((sv 14)), .int .u8 ((sv 15)), .int .u8 ((sv 16)), .int .u8 ((sv 17)), .int .u8 ((sv 18)), .int .u8 ((sv 19)), .int .u8 ((sv 20)), .int .u8 ((sv 21)), .int .u8 ((sv 22)), .int .u8 ((sv 23)), .int .u8 ((sv 24)), .int .u8 ((sv 25)), .int .u8 ((sv 26)), .int .u8 ((sv 27)), .int .u8 ((sv 28)), .int .u8 ((sv 29)), .int .u8 ((sv 30))], .slice a 3 c] W (fun e w' => ∃ v2 v3, e = .returned (.tuple #[.agg #[.int .i64 p.wide, .int .i64 p.tlo, .int .i64 p.thi, .int .i64 p.webs], v2, v3]) ∧ IsOrdS 35 3 (os) v2 w' ∧ IsPlanS 35 (2) (xs) v3 w' ∧ Below W.heap.size W w')) (hp : TpIn p) (ho : ∀ i, i < 3 → ToIn (os i)) (hL : patL p os 3 3 [] = L) (hLn : 1 ≤ L.length ∧ L.length ≤ 200) (hLm : ∀ ys ∈ L, ys.length = 3 ∧ (∀ y ∈ ys, 0 ≤ y ∧ y ≤ 4) ∧ patF p os ys 3 = true) (hall : ∀ k, k < 3 → (os k).wd = elT all_ k) :
  Calls Try.prog 3 #[.agg #[.int .u8 ((sv 0)), .int .u8 ((sv 1)), .int .u8 ((sv 2)), .int .u8 ((sv 3)), .int .u8 ((sv 4)), .int .u8 ((sv 5)), .int .u8 ((sv 6)), .int .u8 ((sv 7)), .int .u8 ((sv 8)), .int .u8 ((sv 9)), .int .u8 ((sv 10)), .int .u8 ((sv 11)), .int .u8 ((sv 12)), .int .u8 ((sv 13)), .int .u8 ((sv 14)), .int .u8 ((sv 15)), .int .u8 ((sv 16)), .int .u8 ((sv 17)), .int .u8 ((sv 18)), .int .u8 ((sv 19)), .int .u8 ((sv 20)), .int .u8 ((sv 21)), .int .u8 ((sv 22)), .int .u8 ((sv 23)), .int .u8 ((sv 24)), .int .u8 ((sv 25)), .int .u8 ((sv 26)), .int .u8 ((sv 27)), .int .u8 ((sv 28)), .int .u8 ((sv 29)), .int .u8 ((sv 30))]] w (fun e w' => e = .returned (.bool true) ∧ Below w.heap.size w w') := by
 have hpw_ := hp.webs
 have dq0 : ((L.length : Int) == 0) = false := beq_eq_false_iff_ne.2 (by omega)
 have dq200 : (decide (200 < (L.length : Int))) = false := decide_eq_false (by omega)
 refine calls_fr Try.func3 Try.ntmps3 rfl rfl fun g hg => ?_
 have k0 : g 0 = .agg #[.int .u8 ((sv 0)), .int .u8 ((sv 1)), .int .u8 ((sv 2)), .int .u8 ((sv 3)), .int .u8 ((sv 4)), .int .u8 ((sv 5)), .int .u8 ((sv 6)), .int .u8 ((sv 7)), .int .u8 ((sv 8)), .int .u8 ((sv 9)), .int .u8 ((sv 10)), .int .u8 ((sv 11)), .int .u8 ((sv 12)), .int .u8 ((sv 13)), .int .u8 ((sv 14)), .int .u8 ((sv 15)), .int .u8 ((sv 16)), .int .u8 ((sv 17)), .int .u8 ((sv 18)), .int .u8 ((sv 19)), .int .u8 ((sv 20)), .int .u8 ((sv 21)), .int .u8 ((sv 22)), .int .u8 ((sv 23)), .int .u8 ((sv 24)), .int .u8 ((sv 25)), .int .u8 ((sv 26)), .int .u8 ((sv 27)), .int .u8 ((sv 28)), .int .u8 ((sv 29)), .int .u8 ((sv 30))] := hg 0
 clear hg
 have fB0 : Below w.heap.size w w := Below.refl _ _
 refine wp_seq_k fun K1 hK1 => ?_
 refine region_dk 2 [(1, 0), (2, 1)] [[], []] (rel [bx 0 #[.int .u8 ((sv 0)), .int .u8 ((sv 1)), .int .u8 ((sv 2)), .int .u8 ((sv 3)), .int .u8 ((sv 4)), .int .u8 ((sv 5)), .int .u8 ((sv 6)), .int .u8 ((sv 7)), .int .u8 ((sv 8)), .int .u8 ((sv 9)), .int .u8 ((sv 10)), .int .u8 ((sv 11)), .int .u8 ((sv 12)), .int .u8 ((sv 13)), .int .u8 ((sv 14)), .int .u8 ((sv 15)), .int .u8 ((sv 16)), .int .u8 ((sv 17)), .int .u8 ((sv 18)), .int .u8 ((sv 19)), .int .u8 ((sv 20)), .int .u8 ((sv 21)), .int .u8 ((sv 22)), .int .u8 ((sv 23)), .int .u8 ((sv 24)), .int .u8 ((sv 25)), .int .u8 ((sv 26)), .int .u8 ((sv 27)), .int .u8 ((sv 28)), .int .u8 ((sv 29)), .int .u8 ((sv 30))] 27,
   is (.bool false)])
  ⟨bx_k, is_k, trivial⟩
  ⟨fun f s W n q r u x l => opb rfl rfl (by simp [go_sem, l.e 0 k0]),
  fun f s W n q r u x l => opv rfl rfl (by simp [go_sem]) rfl, trivial⟩ ?_
 intro f1 s1 W1 hB1 g1 hg1
 have fB1 := hB1.f fB0
 have z1 := hB1.below.size
 obtain ⟨r1_0, br1_0⟩ := hB1.is 0
 have lr1_0 := hB1.lr 0 br1_0
 refine hK1 _ _ ?_
 have k1_1 := kt hg1 1 r1_0
 have k1_2 := kt hg1 2 (hB1.is 1)
 clear fB0 hB1 hK1 hg1 r1_0
 refine wp_seq_k fun K2 hK2 => ?_
 refine region_dk 11 [(22, 0), (23, 1), (21, 2), (24, 3), (25, 4), (26, 5), (27, 6), (3, 7), (4, 8), (5, 9), (6, 10)] [[], [0], [0, 1], [0, 1, 2], [0, 1, 2], [0, 1, 2], [0, 1, 2], [0, 1, 2, 3], [0, 1, 2, 3, 4, 7], [0, 1, 2, 3, 4, 5, 7, 8], [0, 1, 2, 3, 4, 5, 6, 7, 8, 9]] (rel [is (.agg #[.int .u8 ((sv 0)), .int .u8 ((sv 1)), .int .u8 ((sv 2)), .int .u8 ((sv 3)), .int .u8 ((sv 4)), .int .u8 ((sv 5)), .int .u8 ((sv 6)), .int .u8 ((sv 7)), .int .u8 ((sv 8)), .int .u8 ((sv 9)), .int .u8 ((sv 10)), .int .u8 ((sv 11)), .int .u8 ((sv 12)), .int .u8 ((sv 13)), .int .u8 ((sv 14)), .int .u8 ((sv 15)), .int .u8 ((sv 16)), .int .u8 ((sv 17)), .int .u8 ((sv 18)), .int .u8 ((sv 19)), .int .u8 ((sv 20)), .int .u8 ((sv 21)), .int .u8 ((sv 22)), .int .u8 ((sv 23)), .int .u8 ((sv 24)), .int .u8 ((sv 25)), .int .u8 ((sv 26)), .int .u8 ((sv 27)), .int .u8 ((sv 28)), .int .u8 ((sv 29)), .int .u8 ((sv 30))]),
   ab fun v W => ∃ x0 x1 x2, v = .tuple #[x0, x1, x2, .bool true] ∧ IsAny2 x0 W ∧ IsG (acl) x1 W ∧ IsG (all_) x2 W,
   ab fun v W => ∃ x0 x1 x2, v = .tuple #[x0, x1, x2, .bool true] ∧ IsAny2 x0 W ∧ IsG (acl) x1 W ∧ IsG (all_) x2 W,
   ab fun v W => IsAny2 v W,
   ab fun v W => IsG (acl) v W,
   ab fun v W => IsG (all_) v W,
   is (.bool true),
   ab fun v W => IsAny2 v W,
   ab fun v W => IsG (acl) v W,
   ab fun v W => IsG (all_) v W,
   is (.bool true)])
  ⟨is_k, ab_k fun v W W' hb ⟨x0, x1, x2, e, h0, h1, h2⟩ => ⟨x0, x1, x2, e, h0, (h1.below hb), (h2.below hb)⟩, ab_k fun v W W' hb ⟨x0, x1, x2, e, h0, h1, h2⟩ => ⟨x0, x1, x2, e, h0, (h1.below hb), (h2.below hb)⟩, ab_k fun v W W' hb h => h, ab_k fun v W W' hb h => (h.below hb), ab_k fun v W W' hb h => (h.below hb), is_k, ab_k fun v W W' hb h => h, ab_k fun v W W' hb h => (h.below hb), ab_k fun v W W' hb h => (h.below hb), is_k, trivial⟩
  ⟨fun f s W n q r u x l => opl rfl rfl rfl (l.v 1 k1_1) (blk_below br1_0 n) Try.underlying27 rfl (by kernel_rfl) rfl,
  fun f s W n q r u x l => opDo_call rfl rfl (by simp [go_sem, l.e 22 (q 0 rfl)]) (hpb W) ((fun e W' h => by obtain ⟨v1, v2, v3, e1, h2, h3, h4⟩ := h; exact ⟨_, e1, h4, ⟨v1, v2, v3, rfl, trivial, h2, h3⟩⟩)),
  fun f s W n q r u x l => opv (v := (f 1)) rfl rfl (by simp [go_sem, (l.at' 23 rfl : x.tmps[23]?.getD undef = f 1)] <;> rfl) (q 1 rfl),
  fun f s W n q r u x l => by obtain ⟨x2_0, x2_1, x2_2, d2, p2_0, p2_1, p2_2⟩ := (q 2 rfl); exact opv (v := x2_0) rfl rfl (by simp [go_sem, l.e 21 d2]) p2_0,
  fun f s W n q r u x l => by obtain ⟨x2_0, x2_1, x2_2, d2, p2_0, p2_1, p2_2⟩ := (q 2 rfl); exact opv (v := x2_1) rfl rfl (by simp [go_sem, l.e 21 d2]) p2_1,
  fun f s W n q r u x l => by obtain ⟨x2_0, x2_1, x2_2, d2, p2_0, p2_1, p2_2⟩ := (q 2 rfl); exact opv (v := x2_2) rfl rfl (by simp [go_sem, l.e 21 d2]) p2_2,
  fun f s W n q r u x l => by obtain ⟨x2_0, x2_1, x2_2, d2, p2_0, p2_1, p2_2⟩ := (q 2 rfl); exact opv rfl rfl (by simp [go_sem, l.e 21 d2]) rfl,
  fun f s W n q r u x l => opv (v := (f 3)) rfl rfl (by simp [go_sem, (l.at' 24 rfl : x.tmps[24]?.getD undef = f 3)] <;> rfl) (q 3 rfl),
  fun f s W n q r u x l => opv (v := (f 4)) rfl rfl (by simp [go_sem, (l.at' 25 rfl : x.tmps[25]?.getD undef = f 4)] <;> rfl) (q 4 rfl),
  fun f s W n q r u x l => opv (v := (f 5)) rfl rfl (by simp [go_sem, (l.at' 26 rfl : x.tmps[26]?.getD undef = f 5)] <;> rfl) (q 5 rfl),
  fun f s W n q r u x l => opv rfl rfl (by simp [go_sem, l.e 27 (q 6 rfl)]) rfl, trivial⟩ ?_
 intro f2 s2 W2 hB2 g2 hg2
 have fB2 := hB2.f fB1
 have z2 := hB2.below.size
 have b2_0 := hB2.b br1_0
 obtain ⟨g63', c64', r2_9, q65', q66'⟩ := hB2.is 9
 refine hK2 _ _ ?_
 have k2_1 := kt hg2 1 k1_1
 have k2_2 := kt hg2 2 k1_2
 have k2_5 := kt hg2 5 r2_9
 have k2_6 := kt hg2 6 (hB2.is 10)
 clear br1_0 fB1 hB2 hK2 hg2 k1_1 k1_2 r2_9
 refine wp_seq_k fun K3 hK3 => ?_
 refine wp_seq_k fun K4 hK4 => ?_
 refine region_dk 2 [(28, 0), (29, 1)] [[], [0]] (rel [is (.bool true),
   is (.bool false)])
  ⟨is_k, is_k, trivial⟩
  ⟨fun f s W n q r u x l => opv rfl rfl (by simp [go_sem, l.e 6 k2_6]) rfl,
  fun f s W n q r u x l => opv rfl rfl (by simp [go_sem, l.e 28 (q 0 rfl)]) rfl, trivial⟩ ?_
 clear k2_6
 intro f3 s3 W3 hB3 g3 hg3
 have fB3 := hB3.f fB2
 have z3 := hB3.below.size
 have b3_0 := hB3.b b2_0
 have q67' := (q65'.bw hB3)
 have q68' := (hB3.lt q66')
 refine hK4 _ _ ?_
 have k3_1 := kt hg3 1 k2_1
 have k3_2 := kt hg3 2 k2_2
 have k3_5 := kt hg3 5 k2_5
 have k3_29 := kt hg3 29 (hB3.is 1)
 clear b2_0 fB2 hB3 hK4 hg3 k2_1 k2_2 k2_5
 refine wp_cond_false ((fr_eval rfl).trans k3_29) ?_
 clear k3_29
 refine wp_skip ?_
 refine hK3 _ _ ?_
 clear hK3
 refine wp_seq_k fun K6 hK6 => ?_
 refine region_dk 8 [(31, 0), (32, 1), (33, 2), (30, 3), (34, 4), (35, 5), (36, 6), (7, 7), (8, 9), (9, 10)] [[], [], [0, 1], [0, 1, 2], [0, 1, 2, 3], [0, 1, 2, 3], [0, 1, 2, 3], [], [0, 1, 2, 3, 4, 7], [0, 1, 2, 3, 4, 5, 7, 8], [0, 1, 2, 3, 4, 5, 6, 7, 8, 9]] (rel [is (.agg #[.int .u8 ((sv 0)), .int .u8 ((sv 1)), .int .u8 ((sv 2)), .int .u8 ((sv 3)), .int .u8 ((sv 4)), .int .u8 ((sv 5)), .int .u8 ((sv 6)), .int .u8 ((sv 7)), .int .u8 ((sv 8)), .int .u8 ((sv 9)), .int .u8 ((sv 10)), .int .u8 ((sv 11)), .int .u8 ((sv 12)), .int .u8 ((sv 13)), .int .u8 ((sv 14)), .int .u8 ((sv 15)), .int .u8 ((sv 16)), .int .u8 ((sv 17)), .int .u8 ((sv 18)), .int .u8 ((sv 19)), .int .u8 ((sv 20)), .int .u8 ((sv 21)), .int .u8 ((sv 22)), .int .u8 ((sv 23)), .int .u8 ((sv 24)), .int .u8 ((sv 25)), .int .u8 ((sv 26)), .int .u8 ((sv 27)), .int .u8 ((sv 28)), .int .u8 ((sv 29)), .int .u8 ((sv 30))]),
   is (.slice (some ⟨g63', 0, none⟩) (3) (c64')),
   ab fun v W => ∃ x1 x2, v = .tuple #[.agg #[.int .i64 p.wide, .int .i64 p.tlo, .int .i64 p.thi, .int .i64 p.webs], x1, x2] ∧ IsOrdS 35 3 (os) x1 W ∧ IsPlanS 35 (2) (xs) x2 W,
   ab fun v W => ∃ x1 x2, v = .tuple #[.agg #[.int .i64 p.wide, .int .i64 p.tlo, .int .i64 p.thi, .int .i64 p.webs], x1, x2] ∧ IsOrdS 35 3 (os) x1 W ∧ IsPlanS 35 (2) (xs) x2 W,
   is (.agg #[.int .i64 p.wide, .int .i64 p.tlo, .int .i64 p.thi, .int .i64 p.webs]),
   ab fun v W => IsOrdS 35 3 (os) v W,
   ab fun v W => IsPlanS 35 (2) (xs) v W,
   bx 7 #[.int .i64 0, .int .i64 0, .int .i64 0, .int .i64 0] 35])
  ⟨is_k, is_k, ab_k fun v W W' hb ⟨x1, x2, e, h1, h2⟩ => ⟨x1, x2, e, (h1.below hb), (h2.below hb)⟩, ab_k fun v W W' hb ⟨x1, x2, e, h1, h2⟩ => ⟨x1, x2, e, (h1.below hb), (h2.below hb)⟩, is_k, ab_k fun v W W' hb h => (h.below hb), ab_k fun v W W' hb h => (h.below hb), bx_k, trivial⟩
  ⟨fun f s W n q r u x l => opl rfl rfl rfl (l.v 1 k3_1) (blk_below b3_0 n) Try.underlying27 rfl (by kernel_rfl) rfl,
  fun f s W n q r u x l => opv rfl rfl (by simp [go_sem, l.e 5 k3_5]) rfl,
  fun f s W n q r u x l => opDo_call (args := #[.agg #[.int .u8 ((sv 0)), .int .u8 ((sv 1)), .int .u8 ((sv 2)), .int .u8 ((sv 3)), .int .u8 ((sv 4)), .int .u8 ((sv 5)), .int .u8 ((sv 6)), .int .u8 ((sv 7)), .int .u8 ((sv 8)), .int .u8 ((sv 9)), .int .u8 ((sv 10)), .int .u8 ((sv 11)), .int .u8 ((sv 12)), .int .u8 ((sv 13)), .int .u8 ((sv 14)), .int .u8 ((sv 15)), .int .u8 ((sv 16)), .int .u8 ((sv 17)), .int .u8 ((sv 18)), .int .u8 ((sv 19)), .int .u8 ((sv 20)), .int .u8 ((sv 21)), .int .u8 ((sv 22)), .int .u8 ((sv 23)), .int .u8 ((sv 24)), .int .u8 ((sv 25)), .int .u8 ((sv 26)), .int .u8 ((sv 27)), .int .u8 ((sv 28)), .int .u8 ((sv 29)), .int .u8 ((sv 30))], .slice (some ⟨g63', 0, none⟩) (3) (c64')]) rfl rfl (by simp [go_sem, l.e 31 (q 0 rfl), l.e 32 (q 1 rfl)]) (hrun W _ _ ((q67'.below n (Nat.le_refl _)))) ((fun e W' h => by obtain ⟨v2, v3, e1, h2, h3, h4⟩ := h; exact ⟨_, e1, h4, ⟨v2, v3, rfl, h2, h3⟩⟩)),
  fun f s W n q r u x l => opv (v := (f 2)) rfl rfl (by simp [go_sem, (l.at' 33 rfl : x.tmps[33]?.getD undef = f 2)] <;> rfl) (q 2 rfl),
  fun f s W n q r u x l => by obtain ⟨x3_1, x3_2, d3, p3_1, p3_2⟩ := (q 3 rfl); exact opv rfl rfl (by simp [go_sem, l.e 30 d3]) rfl,
  fun f s W n q r u x l => by obtain ⟨x3_1, x3_2, d3, p3_1, p3_2⟩ := (q 3 rfl); exact opv (v := x3_1) rfl rfl (by simp [go_sem, l.e 30 d3]) p3_1,
  fun f s W n q r u x l => by obtain ⟨x3_1, x3_2, d3, p3_1, p3_2⟩ := (q 3 rfl); exact opv (v := x3_2) rfl rfl (by simp [go_sem, l.e 30 d3]) p3_2,
  fun f s W n q r u x l => opb rfl rfl (by simp [go_sem]), trivial⟩ ?_
 clear k3_1
 intro f4 s4 W4 hB4 g4 hg4
 have fB4 := hB4.f fB3
 have z4 := hB4.below.size
 have b4_0 := hB4.b b3_0
 have q69' := (q67'.bw hB4)
 have q70' := (hB4.lt q68')
 obtain ⟨g71', c72', r4_5, q73'⟩ := hB4.is 5
 obtain ⟨a74', c75', b76', o77', ad78', cp79', r4_6, q82', q81', q80'⟩ := hB4.is 6
 obtain ⟨r4_7, br4_7⟩ := hB4.is 7
 have lr4_7 := hB4.lr 7 br4_7
 have k4_2 := kt hg4 2 k3_2
 have k4_5 := kt hg4 5 k3_5
 have k4_34 := kt hg4 34 (hB4.is 4)
 have k4_35 := kt hg4 35 r4_5
 have k4_36 := kt hg4 36 r4_6
 have k4_7 := kt hg4 7 r4_7
 obtain ⟨W5, hW5⟩ : ∃ W', W' = W4.setRow (s4 7) #[.int .i64 p.wide, .int .i64 p.tlo, .int .i64 p.thi, .int .i64 p.webs] := ⟨_, rfl⟩
 refine tail_skip (o := _) rfl ⟨rfl, rfl⟩ (run_seg hW5 (fr_ev k4_7) (fr_ev k4_34) br4_7 rfl rfl rfl rfl) ?_
 obtain ⟨fB5, nb5, ot5, z5⟩ := seg_facts hW5 fB4 br4_7 (by omega)
 clear hW5
 have b5_0 := ot5 _ _ (by omega) b4_0
 have q83' := (q69'.other ot5 q70' (by omega) z5)
 have q84' := Nat.lt_of_lt_of_le q70' z5
 have q85' := q73'.other ot5 (br4_7) z5
 have q86' := q80'.other ot5 (br4_7) z5
 have q87' := q81'
 have q88' := q82'
 refine tail_value (o := _) rfl rfl rfl (v := .slice (some ⟨g71', 0, none⟩) (3) (c72')) (by simp [go_sem, frv 177 k4_35]) ?_
 generalize hg6 : upd g4 8 (.slice (some ⟨g71', 0, none⟩) (3) (c72')) = g6
 have k6_2 := ku hg6 2 k4_2
 have k6_5 := ku hg6 5 k4_5
 have k6_36 := ku hg6 36 k4_36
 have k6_7 := ku hg6 7 k4_7
 have k6_8 := kt hg6 8 (upd_same _ _ _)
 refine tail_value (o := _) rfl rfl rfl (v := .slice (a74') (2) (c75')) (by simp [go_sem, frv 177 k6_36]) ?_
 generalize hg7 : upd g6 9 (.slice (a74') (2) (c75')) = g7
 have k7_2 := ku hg7 2 k6_2
 have k7_5 := ku hg7 5 k6_5
 have k7_7 := ku hg7 7 k6_7
 have k7_8 := ku hg7 8 k6_8
 have k7_9 := kt hg7 9 (upd_same _ _ _)
 refine wpOps_end ?_
 refine hK6 _ _ ?_
 have q89' : OrdR W5 g71' 0 3 (os) := q85'.here
 have q90' : SuR W5 b76' o77' (2) (xs) ad78' cp79' := q86'.here
 clear b3_0 b4_0 br4_7 fB3 fB4 hB4 hK6 hg4 hg6 hg7 k3_2 k3_5 k4_2 k4_34 k4_35 k4_36 k4_5 k4_7 k6_2 k6_36 k6_5 k6_7 k6_8 k7_9 ot5 r4_5 r4_6 r4_7
 refine wp_seq_k fun K7 hK7 => ?_
 refine region_dk 9 [(38, 0), (39, 1), (40, 2), (41, 3), (37, 4), (42, 5), (43, 6), (10, 7), (11, 8)] [[], [], [1], [0, 1, 2], [0, 1, 2, 3], [0, 1, 2, 3, 4], [0, 1, 2, 3, 4], [0, 1, 2, 3, 4, 5], [0, 1, 2, 3, 4, 5, 6, 7]] (rel [is (.agg #[.int .i64 p.wide, .int .i64 p.tlo, .int .i64 p.thi, .int .i64 p.webs]),
   is (.slice (some ⟨g71', 0, none⟩) (3) (c72')),
   ab fun v W => IsOrd 3 (os) v W,
   ab fun v W => ∃ x0, v = .tuple #[x0, .int .i64 0] ∧ IsLL L x0 W,
   ab fun v W => ∃ x0, v = .tuple #[x0, .int .i64 0] ∧ IsLL L x0 W,
   ab fun v W => IsLL L v W,
   is (.int .i64 0),
   ab fun v W => IsLL L v W,
   is (.int .i64 0)])
  ⟨is_k, is_k, ab_k fun v W W' hb h => (h.below hb), ab_k fun v W W' hb ⟨x0, e, h0⟩ => ⟨x0, e, (h0.below hb)⟩, ab_k fun v W W' hb ⟨x0, e, h0⟩ => ⟨x0, e, (h0.below hb)⟩, ab_k fun v W W' hb h => (h.below hb), is_k, ab_k fun v W W' hb h => (h.below hb), is_k, trivial⟩
  ⟨fun f s W n q r u x l => opl rfl rfl rfl (l.v 7 k7_7) (blk_below nb5 n) Try.underlying35 rfl (by kernel_rfl) rfl,
  fun f s W n q r u x l => opv rfl rfl (by simp [go_sem, l.e 8 k7_8]) rfl,
  fun f s W n q r u x l => opDo_call rfl rfl (by simp [go_sem, l.e 39 (q 1 rfl)]) (pubOrders_any os g71' 0 3 c72' W ((q89'.below n)) (by decide) (by decide)) ((fun e W' h => by obtain ⟨v, e1, h1, h2⟩ := h; exact ⟨_, e1, h2, h1⟩)),
  fun f s W n q r u x l => by obtain ⟨g91', c92', d2, q93'⟩ := (q 2 rfl); exact opDo_call rfl rfl (by simp [go_sem, l.e 38 (q 0 rfl), l.e 40 d2]) (tr_Patterns p os g91' 0 3 c92' W q93' hp ho (by decide)) ((fun e W' h => by obtain ⟨v, e1, h1, h2⟩ := h; rw [hL] at h1; exact ⟨_, e1, h2, ⟨v, rfl, h1⟩⟩)),
  fun f s W n q r u x l => opv (v := (f 3)) rfl rfl (by simp [go_sem, (l.at' 41 rfl : x.tmps[41]?.getD undef = f 3)] <;> rfl) (q 3 rfl),
  fun f s W n q r u x l => by obtain ⟨x4_0, d4, p4_0⟩ := (q 4 rfl); exact opv (v := x4_0) rfl rfl (by simp [go_sem, l.e 37 d4]) p4_0,
  fun f s W n q r u x l => by obtain ⟨x4_0, d4, p4_0⟩ := (q 4 rfl); exact opv rfl rfl (by simp [go_sem, l.e 37 d4]) rfl,
  fun f s W n q r u x l => opv (v := (f 5)) rfl rfl (by simp [go_sem, (l.at' 42 rfl : x.tmps[42]?.getD undef = f 5)] <;> rfl) (q 5 rfl),
  fun f s W n q r u x l => opv rfl rfl (by simp [go_sem, l.e 43 (q 6 rfl)]) rfl, trivial⟩ ?_
 intro f8 s8 W8 hB8 g8 hg8
 have fB8 := hB8.f fB5
 have z8 := hB8.below.size
 have b8_0 := hB8.b b5_0
 have b8_1 := hB8.b nb5
 have q102' := (q83'.bw hB8)
 have q103' := (hB8.lt q84')
 have q104' := (q89'.below hB8.below)
 have q105' := (q90'.below hB8.below)
 have q106' := q87'
 have q107' := q88'
 obtain ⟨a108', c109', b110', o111', ad112', cp113', r8_7, -, q115', q114'⟩ := hB8.is 7
 refine hK7 _ _ ?_
 have k8_2 := kt hg8 2 k7_2
 have k8_5 := kt hg8 5 k7_5
 have k8_7 := kt hg8 7 k7_7
 have k8_8 := kt hg8 8 k7_8
 have k8_10 := kt hg8 10 r8_7
 have k8_11 := kt hg8 11 (hB8.is 8)
 clear b5_0 fB5 hB8 hK7 hg8 k7_2 k7_5 k7_7 k7_8 nb5 r8_7
 refine wp_seq_k fun K8 hK8 => ?_
 refine wp_seq_k fun K9 hK9 => ?_
 refine region_dk 12 [(44, 0), (45, 1), (46, 2), (47, 3), (48, 4), (49, 5), (50, 6), (51, 7), (52, 8), (53, 9), (54, 10), (55, 11)] [[], [0], [0, 1], [0, 1, 2], [0, 1, 2, 3], [0, 1, 2, 3, 4], [0, 1, 2, 3, 4, 5], [0, 1, 2, 3, 4, 5, 6], [0, 1, 2, 3, 4, 5, 6, 7], [0, 1, 2, 3, 4, 5, 6, 7, 8], [0, 1, 2, 3, 4, 5, 6, 7, 8, 9], [0, 1, 2, 3, 4, 5, 6, 7, 8, 9, 10]] (rel [is (.int .i64 0),
   is (.bool false),
   is (.bool false),
   is (.slice (a108') (L.length) (c109')),
   is (.int .i64 ((L.length : Int))),
   is (.bool false),
   is (.bool false),
   is (.bool false),
   is (.slice (a108') (L.length) (c109')),
   is (.int .i64 ((L.length : Int))),
   is (.bool false),
   is (.bool false)])
  ⟨is_k, is_k, is_k, is_k, is_k, is_k, is_k, is_k, is_k, is_k, is_k, is_k, trivial⟩
  ⟨fun f s W n q r u x l => opv rfl rfl (by simp [go_sem, l.e 11 k8_11]) rfl,
  fun f s W n q r u x l => opv rfl rfl (by simp [go_sem, l.e 44 (q 0 rfl)]) rfl,
  fun f s W n q r u x l => opv rfl rfl (by simp [go_sem, l.e 45 (q 1 rfl)]) rfl,
  fun f s W n q r u x l => osure rfl rfl (l.says (d := 46) rfl rfl (q 2 rfl)) (gv (by simp [go_sem, l.e 10 k8_10]) rfl),
  fun f s W n q r u x l => osure rfl rfl (l.says (d := 46) rfl rfl (q 2 rfl)) (gv (by simp [go_sem, l.e 47 (q 3 rfl)]) rfl),
  fun f s W n q r u x l => osure rfl rfl (l.says (d := 46) rfl rfl (q 2 rfl)) (gv (by simp [go_sem, l.e 48 (q 4 rfl), dq0]) rfl),
  fun f s W n q r u x l => opk (c := false) rfl rfl (fun _ => by simp [go_sem, l.e 46 (q 2 rfl), l.e 49 (q 5 rfl)]) (fun h => absurd h (by decide)),
  fun f s W n q r u x l => opv rfl rfl (by simp [go_sem, l.e 50 (q 6 rfl)]) rfl,
  fun f s W n q r u x l => osure rfl rfl (l.says (d := 51) rfl rfl (q 7 rfl)) (gv (by simp [go_sem, l.e 10 k8_10]) rfl),
  fun f s W n q r u x l => osure rfl rfl (l.says (d := 51) rfl rfl (q 7 rfl)) (gv (by simp [go_sem, l.e 52 (q 8 rfl)]) rfl),
  fun f s W n q r u x l => osure rfl rfl (l.says (d := 51) rfl rfl (q 7 rfl)) (gv (by simp [go_sem, l.e 53 (q 9 rfl), dq200]) rfl),
  fun f s W n q r u x l => opk (c := false) rfl rfl (fun _ => by simp [go_sem, l.e 51 (q 7 rfl), l.e 54 (q 10 rfl)]) (fun h => absurd h (by decide)), trivial⟩ ?_
 clear k8_11
 intro f9 s9 W9 hB9 g9 hg9
 have fB9 := hB9.f fB8
 have z9 := hB9.below.size
 have b9_0 := hB9.b b8_0
 have b9_1 := hB9.b b8_1
 have q116' := (q102'.bw hB9)
 have q117' := (hB9.lt q103')
 have q118' := (q104'.below hB9.below)
 have q119' := (q105'.below hB9.below)
 have q120' := q106'
 have q121' := q107'
 have q122' := (q114'.below hB9.below)
 have q123' := q115'
 refine hK9 _ _ ?_
 have k9_2 := kt hg9 2 k8_2
 have k9_5 := kt hg9 5 k8_5
 have k9_7 := kt hg9 7 k8_7
 have k9_8 := kt hg9 8 k8_8
 have k9_10 := kt hg9 10 k8_10
 have k9_55 := kt hg9 55 (hB9.is 11)
 clear b8_0 b8_1 fB8 hB9 hK9 hg9 k8_10 k8_2 k8_5 k8_7 k8_8
 refine wp_cond_false ((fr_eval rfl).trans k9_55) ?_
 clear k9_55
 refine wp_skip ?_
 refine hK8 _ _ ?_
 clear hK8
 refine wp_seq_k fun K11 hK11 => ?_
 refine wp_seq_k fun K12 hK12 => ?_
 refine region_dk 1 [(12, 0)] [[]] (rel [is (.int .i64 0)])
  ⟨is_k, trivial⟩
  ⟨fun f s W n q r u x l => opv rfl rfl (by simp [go_sem]) rfl, trivial⟩ ?_
 intro f10 s10 W10 hB10 g10 hg10
 have fB10 := hB10.f fB9
 have z10 := hB10.below.size
 have b10_0 := hB10.b b9_0
 have b10_1 := hB10.b b9_1
 have q124' := (q116'.bw hB10)
 have q125' := (hB10.lt q117')
 have q126' := (q118'.below hB10.below)
 have q127' := (q119'.below hB10.below)
 have q128' := q120'
 have q129' := q121'
 have q130' := (q122'.below hB10.below)
 have q131' := q123'
 refine hK12 _ _ ?_
 have k10_2 := kt hg10 2 k9_2
 have k10_5 := kt hg10 5 k9_5
 have k10_7 := kt hg10 7 k9_7
 have k10_8 := kt hg10 8 k9_8
 have k10_10 := kt hg10 10 k9_10
 have k10_12 := kt hg10 12 (hB10.is 0)
 have fA11 : Below W10.heap.size W10 W10 := Below.refl _ _
 clear b10_0 b9_0 b9_1 fB9 hB10 hK12 hg10 k9_10 k9_2 k9_5 k9_7 k9_8
 refine wp_block ?_
 refine wp_loop_n (fun m_ a_ W_ => ∃ g_ : Nat → Value, a_ = fr 177 g_ ∧ (∃ k : Nat, m_ = L.length - k ∧ g_ 2 = .bool false ∧ g_ 5 = .slice (some ⟨g63', 0, none⟩) (3) (c64') ∧ g_ 7 = .pointer (some ⟨(s4 7), 0, none⟩) ∧ g_ 8 = .slice (some ⟨g71', 0, none⟩) (3) (c72') ∧ g_ 10 = .slice (a108') (L.length) (c109') ∧ g_ 12 = .int .i64 ((k : Int)) ∧ Below w.heap.size w W_ ∧ W10.heap.size ≤ W_.heap.size ∧ Below W10.heap.size W10 W_ ∧ (k ≤ L.length))) ⟨_, g10, rfl, 0, rfl, k10_2, k10_5, k10_7, k10_8, k10_10, k10_12.trans (by rfl), fB10, Nat.le_refl _, fA11, (by omega)⟩ ?_
 rintro _ _ W_132 ⟨g_132, rfl, k, rfl, k_132_2, k_132_5, k_132_7, k_132_8, k_132_10, k_132_12, fB_132, z_132, fA_132, lk0⟩
 clear fB10 k10_10 k10_12 k10_2 k10_5 k10_7 k10_8
 refine wp_seq_k fun K13 hK13 => ?_
 refine wp_seq_k fun K14 hK14 => ?_
 refine region_dk 4 [(56, 0), (57, 1), (58, 2), (59, 3)] [[], [], [1], [0, 1, 2]] (rel [is (.int .i64 ((k : Int))),
   is (.slice (a108') (L.length) (c109')),
   is (.int .i64 ((L.length : Int))),
   is (.bool (decide ((k : Int) < (L.length : Int))))])
  ⟨is_k, is_k, is_k, is_k, trivial⟩
  ⟨fun f s W n q r u x l => opv rfl rfl (by simp [go_sem, l.e 12 k_132_12]) rfl,
  fun f s W n q r u x l => opv rfl rfl (by simp [go_sem, l.e 10 k_132_10]) rfl,
  fun f s W n q r u x l => opv rfl rfl (by simp [go_sem, l.e 57 (q 1 rfl)]) rfl,
  fun f s W n q r u x l => opv rfl rfl (by simp [go_sem, l.e 56 (q 0 rfl), l.e 58 (q 2 rfl)]) rfl, trivial⟩ ?_
 intro f12 s12 W12 hB12 g12 hg12
 have fB12 := hB12.f fB_132
 have z12 := hB12.below.size
 have fA12 := hB12.f fA_132
 refine hK14 _ _ ?_
 have k12_2 := kt hg12 2 k_132_2
 have k12_5 := kt hg12 5 k_132_5
 have k12_7 := kt hg12 7 k_132_7
 have k12_8 := kt hg12 8 k_132_8
 have k12_10 := kt hg12 10 k_132_10
 have k12_12 := kt hg12 12 k_132_12
 have k12_59 := kt hg12 59 (hB12.is 3)
 clear hB12 hK14 hg12
 refine wp_cond_split (t := decide ((k : Int) < (L.length : Int))) ((fr_eval rfl).trans k12_59) (fun hc15 => ?_) (fun hc15 => ?_)
 ·
  have hc15' := hc15; try simp only [ba] at hc15'
  have hk3 : k < L.length := by omega
  have hy_ := hLm ((rowL L k)) (by unfold rowL; rw [List.getD_eq_getElem?_getD, List.getElem?_eq_getElem hk3]; exact List.getElem_mem hk3)
  have hln_ : (rowL L k).length = 3 := hy_.1
  have hbd_ := hy_.2.1
  have hpt_ := hy_.2.2
  have hpl_ := pat_lr hpt_
  have hlb_ : 0 ≤ (leftF p os (rowL L k) 3) ∧ (leftF p os (rowL L k) 3) ≤ 3000 := pat_left hp hpt_
  have hcn_ := cnt_two hpt_ hbd_
  have hal_ := at_left p os (rowL L k) ((leftF p os (rowL L k) 3) / 2) 3
  have dqn : (((rowL L k).length : Int) != 3) = false := by rw [hln_]; rfl
  have dq2 : (decide (((cntF (rowL L k) 3) : Int) < 2)) = false := decide_eq_false (by omega)
  obtain ⟨bwk, owk, hwk⟩ := ii_addr (q130'.2 k hk3).2 (show 0 < (rowL L k).length by omega)
  clear k12_59
  refine wp_skip ?_
  refine hK13 _ _ ?_
  clear hK13
  refine wp_seq_k fun K16 hK16 => ?_
  refine wp_block ?_
  refine wp_seq_k fun K17 hK17 => ?_
  refine region_dk 14 [(63, 0), (64, 1), (65, 2), (66, 3), (67, 4), (68, 5), (69, 6), (70, 7), (71, 8), (62, 9), (72, 10), (73, 11), (13, 12), (14, 13)] [[], [], [1], [], [], [3, 4], [3, 4, 5], [1, 2, 3, 4, 5, 6], [0, 1, 2, 3, 4, 5, 6, 7], [0, 1, 2, 3, 4, 5, 6, 7, 8], [0, 1, 2, 3, 4, 5, 6, 7, 8, 9], [0, 1, 2, 3, 4, 5, 6, 7, 8, 9], [0, 1, 2, 3, 4, 5, 6, 7, 8, 9, 10], [0, 1, 2, 3, 4, 5, 6, 7, 8, 9, 10, 11, 12]] (rel [is (.agg #[.int .i64 p.wide, .int .i64 p.tlo, .int .i64 p.thi, .int .i64 p.webs]),
   is (.slice (some ⟨g71', 0, none⟩) (3) (c72')),
   ab fun v W => IsOrd 3 (os) v W,
   is (.slice (a108') (L.length) (c109')),
   is (.int .i64 ((k : Int))),
   is (.pointer (some ⟨b110', o111' + k, none⟩)),
   is (.slice ((ad112' k)) ((rowL L k).length) ((cp113' k))),
   ab fun v W => IsG ((rowL L k)) v W,
   ab fun v W => ∃ x0, v = .tuple #[x0, .int .i64 0] ∧ IsKn3 (knF os (rowL L k) ((leftF p os (rowL L k) 3) / 2) 3) (cntF (rowL L k) 3) x0 W,
   ab fun v W => ∃ x0, v = .tuple #[x0, .int .i64 0] ∧ IsKn3 (knF os (rowL L k) ((leftF p os (rowL L k) 3) / 2) 3) (cntF (rowL L k) 3) x0 W,
   ab fun v W => IsKn3 (knF os (rowL L k) ((leftF p os (rowL L k) 3) / 2) 3) (cntF (rowL L k) 3) v W,
   is (.int .i64 0),
   ab fun v W => IsKn3 (knF os (rowL L k) ((leftF p os (rowL L k) 3) / 2) 3) (cntF (rowL L k) 3) v W,
   is (.int .i64 0)])
   ⟨is_k, is_k, ab_k fun v W W' hb h => (h.below hb), is_k, is_k, is_k, is_k, ab_k fun v W W' hb h => (h.below hb), ab_k fun v W W' hb ⟨x0, e, h0⟩ => ⟨x0, e, (h0.below hb)⟩, ab_k fun v W W' hb ⟨x0, e, h0⟩ => ⟨x0, e, (h0.below hb)⟩, ab_k fun v W W' hb h => (h.below hb), is_k, ab_k fun v W W' hb h => (h.below hb), is_k, trivial⟩
   ⟨fun f s W n q r u x l => by have aW := below_trans fA12 n; exact opl rfl rfl rfl (l.v 7 k12_7) (blk_below b10_1 aW) Try.underlying35 rfl (by kernel_rfl) rfl,
  fun f s W n q r u x l => opv rfl rfl (by simp [go_sem, l.e 8 k12_8]) rfl,
  fun f s W n q r u x l => by have aW := below_trans fA12 n; exact opDo_call rfl rfl (by simp [go_sem, l.e 64 (q 1 rfl)]) (pubOrders_any os g71' 0 3 c72' W ((q126'.below aW)) (by decide) (by decide)) ((fun e W' h => by obtain ⟨v, e1, h1, h2⟩ := h; exact ⟨_, e1, h2, h1⟩)),
  fun f s W n q r u x l => opv rfl rfl (by simp [go_sem, l.e 10 k12_10]) rfl,
  fun f s W n q r u x l => opv rfl rfl (by simp [go_sem, l.e 12 k12_12]) rfl,
  fun f s W n q r u x l => by have li_ := Nat.not_le.2 hk3; have li2_ : (k : Int) < (L.length : Int) := (by omega); have hab := q131' (by omega); exact opv rfl rfl (by simp [go_sem, l.e 66 (q 3 rfl), l.e 67 (q 4 rfl), li_, li2_, hab]) rfl,
  fun f s W n q r u x l => by have aW := below_trans fA12 n; have cu_ : W.cell? ⟨b110', o111' + k, none⟩ = some (.slice (ad112' k) (rowL L k).length (cp113' k)) := ((q130'.below aW).2 k hk3).1; exact opv rfl rfl (by simp [go_sem, l.e 68 (q 5 rfl), cu_]) rfl,
  fun f s W n q r u x l => by have aW := below_trans fA12 n; exact opDo_call rfl rfl (by simp [go_sem, l.e 69 (q 6 rfl)]) (pubInts_own ((ad112' k)) (cp113' k) (rowL L k).length (rowL L k) W (((q130'.below aW)).2 k hk3).2 (by omega) (by omega)) ((fun e W' h => by obtain ⟨v, e1, ⟨g_, c_, e2, h1⟩, h2⟩ := h; rw [hln_] at e2; exact ⟨_, e1, h2, ⟨g_, c_, e2, hln_ ▸ h1.ii, h1.2.1⟩⟩)),
  fun f s W n q r u x l => by obtain ⟨g133', c134', d2, q135'⟩ := (q 2 rfl); obtain ⟨g136', c137', d7, q138', q139'⟩ := (q 7 rfl); exact opDo_call (args := #[.agg #[.int .i64 p.wide, .int .i64 p.tlo, .int .i64 p.thi, .int .i64 p.webs], .slice (some ⟨g133', 0, none⟩) (3) (c134'), .slice (some ⟨g136', 0, none⟩) (3) (c137')]) rfl rfl (by simp [go_sem, l.e 63 (q 0 rfl), l.e 65 d2, l.e 70 d7]) (tr_Knives p os g133' 0 3 c134' (some ⟨g136', 0, none⟩) 3 c137' (rowL L k) ((leftF p os (rowL L k) 3) / 2) W q135' hp ho (by decide) q138' hbd_ rfl hpt_ hlb_ rfl) ((fun e W' h => by obtain ⟨v, e1, h1, h2⟩ := h; exact ⟨_, e1, h2, ⟨v, rfl, kn3_of h1⟩⟩)),
  fun f s W n q r u x l => opv (v := (f 8)) rfl rfl (by simp [go_sem, (l.at' 71 rfl : x.tmps[71]?.getD undef = f 8)] <;> rfl) (q 8 rfl),
  fun f s W n q r u x l => by obtain ⟨x9_0, d9, p9_0⟩ := (q 9 rfl); exact opv (v := x9_0) rfl rfl (by simp [go_sem, l.e 62 d9]) p9_0,
  fun f s W n q r u x l => by obtain ⟨x9_0, d9, p9_0⟩ := (q 9 rfl); exact opv rfl rfl (by simp [go_sem, l.e 62 d9]) rfl,
  fun f s W n q r u x l => opv (v := (f 10)) rfl rfl (by simp [go_sem, (l.at' 72 rfl : x.tmps[72]?.getD undef = f 10)] <;> rfl) (q 10 rfl),
  fun f s W n q r u x l => opv rfl rfl (by simp [go_sem, l.e 73 (q 11 rfl)]) rfl, trivial⟩ ?_
  intro f13 s13 W13 hB13 g13 hg13
  have fB13 := hB13.f fB12
  have z13 := hB13.below.size
  have fA13 := hB13.f fA12
  obtain ⟨g143', c144', r13_12, q145'⟩ := hB13.is 12
  refine hK17 _ _ ?_
  have k13_2 := kt hg13 2 k12_2
  have k13_5 := kt hg13 5 k12_5
  have k13_7 := kt hg13 7 k12_7
  have k13_8 := kt hg13 8 k12_8
  have k13_10 := kt hg13 10 k12_10
  have k13_12 := kt hg13 12 k12_12
  have k13_13 := kt hg13 13 r13_12
  have k13_14 := kt hg13 14 (hB13.is 13)
  clear hB13 hK17 hg13 k12_10 k12_12 k12_2 k12_5 k12_7 k12_8 r13_12
  refine wp_seq_k fun K18 hK18 => ?_
  refine region_dk 14 [(75, 0), (76, 1), (77, 2), (78, 3), (79, 4), (80, 5), (81, 6), (82, 7), (83, 8), (74, 9), (84, 10), (85, 11), (15, 12), (16, 13)] [[], [], [1], [], [], [3, 4], [3, 4, 5], [1, 2, 3, 4, 5, 6], [0, 1, 2, 3, 4, 5, 6, 7], [0, 1, 2, 3, 4, 5, 6, 7, 8], [0, 1, 2, 3, 4, 5, 6, 7, 8, 9], [0, 1, 2, 3, 4, 5, 6, 7, 8, 9], [0, 1, 2, 3, 4, 5, 6, 7, 8, 9, 10], [0, 1, 2, 3, 4, 5, 6, 7, 8, 9, 10, 11, 12]] (rel [is (.agg #[.int .i64 p.wide, .int .i64 p.tlo, .int .i64 p.thi, .int .i64 p.webs]),
   is (.slice (some ⟨g71', 0, none⟩) (3) (c72')),
   ab fun v W => IsOrd 3 (os) v W,
   is (.slice (a108') (L.length) (c109')),
   is (.int .i64 ((k : Int))),
   is (.pointer (some ⟨b110', o111' + k, none⟩)),
   is (.slice ((ad112' k)) ((rowL L k).length) ((cp113' k))),
   ab fun v W => IsG ((rowL L k)) v W,
   is (.tuple #[.int .i64 ((leftF p os (rowL L k) 3)), .int .i64 0]),
   is (.tuple #[.int .i64 ((leftF p os (rowL L k) 3)), .int .i64 0]),
   is (.int .i64 ((leftF p os (rowL L k) 3))),
   is (.int .i64 0),
   is (.int .i64 ((leftF p os (rowL L k) 3))),
   is (.int .i64 0)])
   ⟨is_k, is_k, ab_k fun v W W' hb h => (h.below hb), is_k, is_k, is_k, is_k, ab_k fun v W W' hb h => (h.below hb), is_k, is_k, is_k, is_k, is_k, is_k, trivial⟩
   ⟨fun f s W n q r u x l => by have aW := below_trans fA13 n; exact opl rfl rfl rfl (l.v 7 k13_7) (blk_below b10_1 aW) Try.underlying35 rfl (by kernel_rfl) rfl,
  fun f s W n q r u x l => opv rfl rfl (by simp [go_sem, l.e 8 k13_8]) rfl,
  fun f s W n q r u x l => by have aW := below_trans fA13 n; exact opDo_call rfl rfl (by simp [go_sem, l.e 76 (q 1 rfl)]) (pubOrders_any os g71' 0 3 c72' W ((q126'.below aW)) (by decide) (by decide)) ((fun e W' h => by obtain ⟨v, e1, h1, h2⟩ := h; exact ⟨_, e1, h2, h1⟩)),
  fun f s W n q r u x l => opv rfl rfl (by simp [go_sem, l.e 10 k13_10]) rfl,
  fun f s W n q r u x l => opv rfl rfl (by simp [go_sem, l.e 12 k13_12]) rfl,
  fun f s W n q r u x l => by have li_ := Nat.not_le.2 hk3; have li2_ : (k : Int) < (L.length : Int) := (by omega); have hab := q131' (by omega); exact opv rfl rfl (by simp [go_sem, l.e 78 (q 3 rfl), l.e 79 (q 4 rfl), li_, li2_, hab]) rfl,
  fun f s W n q r u x l => by have aW := below_trans fA13 n; have cu_ : W.cell? ⟨b110', o111' + k, none⟩ = some (.slice (ad112' k) (rowL L k).length (cp113' k)) := ((q130'.below aW).2 k hk3).1; exact opv rfl rfl (by simp [go_sem, l.e 80 (q 5 rfl), cu_]) rfl,
  fun f s W n q r u x l => by have aW := below_trans fA13 n; exact opDo_call rfl rfl (by simp [go_sem, l.e 81 (q 6 rfl)]) (pubInts_own ((ad112' k)) (cp113' k) (rowL L k).length (rowL L k) W (((q130'.below aW)).2 k hk3).2 (by omega) (by omega)) ((fun e W' h => by obtain ⟨v, e1, ⟨g_, c_, e2, h1⟩, h2⟩ := h; rw [hln_] at e2; exact ⟨_, e1, h2, ⟨g_, c_, e2, hln_ ▸ h1.ii, h1.2.1⟩⟩)),
  fun f s W n q r u x l => by obtain ⟨g146', c147', d2, q148'⟩ := (q 2 rfl); obtain ⟨g149', c150', d7, q151', q152'⟩ := (q 7 rfl); exact opc (args := #[.agg #[.int .i64 p.wide, .int .i64 p.tlo, .int .i64 p.thi, .int .i64 p.webs], .slice (some ⟨g146', 0, none⟩) (3) (c147'), .slice (some ⟨g149', 0, none⟩) (3) (c150')]) rfl rfl (by simp [go_sem, l.e 75 (q 0 rfl), l.e 77 d2, l.e 82 d7]) (tr_Trim p os g146' 0 3 c147' (some ⟨g149', 0, none⟩) 3 c150' (rowL L k) W q148' hp ho (by decide) q151' hbd_ rfl hpt_),
  fun f s W n q r u x l => opv rfl rfl (by simp [go_sem, l.e 83 (q 8 rfl)]) rfl,
  fun f s W n q r u x l => opv rfl rfl (by simp [go_sem, l.e 74 (q 9 rfl)]) rfl,
  fun f s W n q r u x l => opv rfl rfl (by simp [go_sem, l.e 74 (q 9 rfl)]) rfl,
  fun f s W n q r u x l => opv rfl rfl (by simp [go_sem, l.e 84 (q 10 rfl)]) rfl,
  fun f s W n q r u x l => opv rfl rfl (by simp [go_sem, l.e 85 (q 11 rfl)]) rfl, trivial⟩ ?_
  intro f14 s14 W14 hB14 g14 hg14
  have fB14 := hB14.f fB13
  have z14 := hB14.below.size
  have fA14 := hB14.f fA13
  have q153' := (q145'.bw hB14)
  refine hK18 _ _ ?_
  have k14_2 := kt hg14 2 k13_2
  have k14_5 := kt hg14 5 k13_5
  have k14_7 := kt hg14 7 k13_7
  have k14_8 := kt hg14 8 k13_8
  have k14_10 := kt hg14 10 k13_10
  have k14_12 := kt hg14 12 k13_12
  have k14_13 := kt hg14 13 k13_13
  have k14_14 := kt hg14 14 k13_14
  have k14_15 := kt hg14 15 (hB14.is 12)
  have k14_16 := kt hg14 16 (hB14.is 13)
  clear fB13 hB14 hK18 hg14 k13_10 k13_12 k13_13 k13_14 k13_2 k13_5 k13_7 k13_8
  refine wp_seq_k fun K19 hK19 => ?_
  refine wp_seq_k fun K20 hK20 => ?_
  refine region_dk 26 [(86, 0), (87, 1), (88, 2), (89, 3), (90, 4), (91, 5), (92, 6), (93, 7), (94, 8), (95, 9), (96, 10), (97, 11), (98, 12), (99, 13), (100, 14), (101, 15), (102, 16), (103, 17), (104, 18), (105, 19), (106, 20), (107, 21), (108, 22), (109, 23), (110, 24), (111, 25)] [[], [0], [0, 1], [0, 1, 2], [0, 1, 2, 3], [0, 1, 2, 3, 4], [0, 1, 2, 3, 4, 5], [0, 1, 2, 3, 4, 5, 6], [0, 1, 2, 3, 4, 5, 6], [0, 1, 2, 3, 4, 5, 6, 7, 8], [0, 1, 2, 3, 4, 5, 6, 7, 8, 9], [0, 1, 2, 3, 4, 5, 6, 7, 8, 9, 10], [0, 1, 2, 3, 4, 5, 6, 7, 8, 9, 10, 11], [0, 1, 2, 3, 4, 5, 6, 7, 8, 9, 10, 11, 12], [0, 1, 2, 3, 4, 5, 6, 7, 8, 9, 10, 11, 12, 13], [0, 1, 2, 3, 4, 5, 6, 7, 8, 9, 10, 11, 12, 13, 14], [0, 1, 2, 3, 4, 5, 6, 7, 8, 9, 10, 11, 12, 13, 14, 15], [0, 1, 2, 3, 4, 5, 6, 7, 8, 9, 10, 11, 12, 13, 14], [0, 1, 2, 3, 4, 5, 6, 7, 8, 9, 10, 11, 12, 13, 14, 15, 16, 17], [0, 1, 2, 3, 4, 5, 6, 7, 8, 9, 10, 11, 12, 13, 14, 15, 16, 17, 18], [0, 1, 2, 3, 4, 5, 6, 7, 8, 9, 10, 11, 12, 13, 14, 15, 16, 17, 18, 19], [0, 1, 2, 3, 4, 5, 6, 7, 8, 9, 10, 11, 12, 13, 14, 15, 16, 17, 18, 19, 20], [0, 1, 2, 3, 4, 5, 6, 7, 8, 9, 10, 11, 12, 13, 14, 15, 16, 17, 18, 19, 20, 21], [0, 1, 2, 3, 4, 5, 6, 7, 8, 9, 10, 11, 12, 13, 14, 15, 16, 17, 18, 19, 20, 21, 22], [0, 1, 2, 3, 4, 5, 6, 7, 8, 9, 10, 11, 12, 13, 14, 15, 16, 17, 18, 19, 20, 21, 22, 23], [0, 1, 2, 3, 4, 5, 6, 7, 8, 9, 10, 11, 12, 13, 14, 15, 16, 17, 18, 19, 20, 21, 22, 23, 24]] (rel [is (.int .i64 0),
   is (.bool false),
   is (.bool false),
   is (.int .i64 0),
   is (.bool false),
   is (.bool false),
   is (.bool false),
   is (.slice (a108') (L.length) (c109')),
   is (.int .i64 ((k : Int))),
   is (.pointer (some ⟨b110', o111' + k, none⟩)),
   is (.slice ((ad112' k)) ((rowL L k).length) ((cp113' k))),
   is (.int .i64 (((rowL L k).length : Int))),
   is (.bool false),
   is (.bool false),
   is (.bool false),
   is (.pointer (some ⟨(s4 7), 1, none⟩)),
   is (.agg #[.int .i64 p.tlo, .int .i64 p.thi]),
   is (.int .i64 ((leftF p os (rowL L k) 3))),
   is (.bool true),
   is (.bool false),
   is (.bool false),
   is (.bool false),
   is (.slice (some ⟨g143', 0, none⟩) ((cntF (rowL L k) 3)) (c144')),
   is (.int .i64 (((cntF (rowL L k) 3) : Int))),
   is (.bool false),
   is (.bool false)])
   ⟨is_k, is_k, is_k, is_k, is_k, is_k, is_k, is_k, is_k, is_k, is_k, is_k, is_k, is_k, is_k, is_k, is_k, is_k, is_k, is_k, is_k, is_k, is_k, is_k, is_k, is_k, trivial⟩
   ⟨fun f s W n q r u x l => opv rfl rfl (by simp [go_sem, l.e 14 k14_14]) rfl,
  fun f s W n q r u x l => opv rfl rfl (by simp [go_sem, l.e 86 (q 0 rfl)]) rfl,
  fun f s W n q r u x l => opv rfl rfl (by simp [go_sem, l.e 87 (q 1 rfl)]) rfl,
  fun f s W n q r u x l => osure rfl rfl (l.says (d := 88) rfl rfl (q 2 rfl)) (gv (by simp [go_sem, l.e 16 k14_16]) rfl),
  fun f s W n q r u x l => osure rfl rfl (l.says (d := 88) rfl rfl (q 2 rfl)) (gv (by simp [go_sem, l.e 89 (q 3 rfl)]) rfl),
  fun f s W n q r u x l => opk (c := false) rfl rfl (fun _ => by simp [go_sem, l.e 88 (q 2 rfl), l.e 90 (q 4 rfl)]) (fun h => absurd h (by decide)),
  fun f s W n q r u x l => opv rfl rfl (by simp [go_sem, l.e 91 (q 5 rfl)]) rfl,
  fun f s W n q r u x l => osure rfl rfl (l.says (d := 92) rfl rfl (q 6 rfl)) (gv (by simp [go_sem, l.e 10 k14_10]) rfl),
  fun f s W n q r u x l => osure rfl rfl (l.says (d := 92) rfl rfl (q 6 rfl)) (gv (by simp [go_sem, l.e 12 k14_12]) rfl),
  fun f s W n q r u x l => osure rfl rfl (l.says (d := 92) rfl rfl (q 6 rfl)) (by have li_ := Nat.not_le.2 hk3; have li2_ : (k : Int) < (L.length : Int) := (by omega); have hab := q131' (by omega); exact gv (by simp [go_sem, l.e 93 (q 7 rfl), l.e 94 (q 8 rfl), li_, li2_, hab]) rfl),
  fun f s W n q r u x l => osure rfl rfl (l.says (d := 92) rfl rfl (q 6 rfl)) (by have aW := below_trans fA14 n; have cu_ : W.cell? ⟨b110', o111' + k, none⟩ = some (.slice (ad112' k) (rowL L k).length (cp113' k)) := ((q130'.below aW).2 k hk3).1; exact gv (by simp [go_sem, l.e 95 (q 9 rfl), cu_]) rfl),
  fun f s W n q r u x l => osure rfl rfl (l.says (d := 92) rfl rfl (q 6 rfl)) (gv (by simp [go_sem, l.e 96 (q 10 rfl)]) rfl),
  fun f s W n q r u x l => osure rfl rfl (l.says (d := 92) rfl rfl (q 6 rfl)) (gv (by simp [go_sem, l.e 97 (q 11 rfl), dqn]) rfl),
  fun f s W n q r u x l => opk (c := false) rfl rfl (fun _ => by simp [go_sem, l.e 92 (q 6 rfl), l.e 98 (q 12 rfl)]) (fun h => absurd h (by decide)),
  fun f s W n q r u x l => opv rfl rfl (by simp [go_sem, l.e 99 (q 13 rfl)]) rfl,
  fun f s W n q r u x l => osure rfl rfl (l.says (d := 100) rfl rfl (q 14 rfl)) (gv (by simp [go_sem, l.e 7 k14_7]) rfl),
  fun f s W n q r u x l => osure rfl rfl (l.says (d := 100) rfl rfl (q 14 rfl)) (by have aW := below_trans fA14 n; exact gv (by simp [go_sem, l.e 101 (q 15 rfl), cb b10_1 aW 1, cb b10_1 aW 2]) rfl),
  fun f s W n q r u x l => osure rfl rfl (l.says (d := 100) rfl rfl (q 14 rfl)) (gv (by simp [go_sem, l.e 15 k14_15]) rfl),
  fun f s W n q r u x l => osure rfl rfl (l.says (d := 100) rfl rfl (q 14 rfl)) (gc (by simp [go_sem, l.e 102 (q 16 rfl), l.e 103 (q 17 rfl)]) (pubHas_yes (p.tlo) (p.thi) ((leftF p os (rowL L k) 3)) W (decide_eq_true hpl_.1) (decide_eq_true hpl_.2))),
  fun f s W n q r u x l => osure rfl rfl (l.says (d := 100) rfl rfl (q 14 rfl)) (gv (by simp [go_sem, l.e 104 (q 18 rfl)]) rfl),
  fun f s W n q r u x l => opk (c := false) rfl rfl (fun _ => by simp [go_sem, l.e 100 (q 14 rfl), l.e 105 (q 19 rfl)]) (fun h => absurd h (by decide)),
  fun f s W n q r u x l => opv rfl rfl (by simp [go_sem, l.e 106 (q 20 rfl)]) rfl,
  fun f s W n q r u x l => osure rfl rfl (l.says (d := 107) rfl rfl (q 21 rfl)) (gv (by simp [go_sem, l.e 13 k14_13]) rfl),
  fun f s W n q r u x l => osure rfl rfl (l.says (d := 107) rfl rfl (q 21 rfl)) (gv (by simp [go_sem, l.e 108 (q 22 rfl)]) rfl),
  fun f s W n q r u x l => osure rfl rfl (l.says (d := 107) rfl rfl (q 21 rfl)) (gv (by simp [go_sem, l.e 109 (q 23 rfl), dq2]) rfl),
  fun f s W n q r u x l => opk (c := false) rfl rfl (fun _ => by simp [go_sem, l.e 107 (q 21 rfl), l.e 110 (q 24 rfl)]) (fun h => absurd h (by decide)), trivial⟩ ?_
  clear k14_14 k14_16
  intro f15 s15 W15 hB15 g15 hg15
  have fB15 := hB15.f fB14
  have z15 := hB15.below.size
  have fA15 := hB15.f fA14
  have q154' := (q153'.bw hB15)
  refine hK20 _ _ ?_
  have k15_2 := kt hg15 2 k14_2
  have k15_5 := kt hg15 5 k14_5
  have k15_7 := kt hg15 7 k14_7
  have k15_8 := kt hg15 8 k14_8
  have k15_10 := kt hg15 10 k14_10
  have k15_12 := kt hg15 12 k14_12
  have k15_13 := kt hg15 13 k14_13
  have k15_15 := kt hg15 15 k14_15
  have k15_111 := kt hg15 111 (hB15.is 25)
  clear fB14 hB15 hK20 hg15 k14_10 k14_12 k14_13 k14_15 k14_2 k14_5 k14_7 k14_8
  refine wp_cond_false ((fr_eval rfl).trans k15_111) ?_
  clear k15_111
  refine wp_skip ?_
  refine hK19 _ _ ?_
  clear hK19
  refine wp_seq_k fun K22 hK22 => ?_
  refine region_dk 4 [(112, 0), (113, 1), (114, 2), (17, 3)] [[], [0], [0, 1], [0, 1, 2]] (rel [is (.slice (some ⟨g143', 0, none⟩) ((cntF (rowL L k) 3)) (c144')),
   is (.pointer (some ⟨g143', 0, none⟩)),
   is (.int .i64 (((leftF p os (rowL L k) 3) / 2))),
   is (.int .i64 (((leftF p os (rowL L k) 3) / 2)))])
   ⟨is_k, is_k, is_k, is_k, trivial⟩
   ⟨fun f s W n q r u x l => opv rfl rfl (by simp [go_sem, l.e 13 k15_13]) rfl,
  fun f s W n q r u x l => by have li_ := Nat.not_le.2 (show 0 < (cntF (rowL L k) 3) by omega); have li2_ : (0 : Int) < ((cntF (rowL L k) 3) : Int) := (by omega); exact opv rfl rfl (by simp [go_sem, l.e 112 (q 0 rfl), li_, li2_]) rfl,
  fun f s W n q r u x l => by have cu_ := ii_atn (q154'.below n (Nat.le_refl _)) rfl (show 0 < (cntF (rowL L k) 3) by omega); rw [knF_first] at cu_; exact opv rfl rfl (by simp [go_sem, l.e 113 (q 1 rfl), cu_]) rfl,
  fun f s W n q r u x l => opv rfl rfl (by simp [go_sem, l.e 114 (q 2 rfl)]) rfl, trivial⟩ ?_
  intro f16 s16 W16 hB16 g16 hg16
  have fB16 := hB16.f fB15
  have z16 := hB16.below.size
  have fA16 := hB16.f fA15
  have q155' := (q154'.bw hB16)
  refine hK22 _ _ ?_
  have k16_2 := kt hg16 2 k15_2
  have k16_5 := kt hg16 5 k15_5
  have k16_7 := kt hg16 7 k15_7
  have k16_8 := kt hg16 8 k15_8
  have k16_10 := kt hg16 10 k15_10
  have k16_12 := kt hg16 12 k15_12
  have k16_13 := kt hg16 13 k15_13
  have k16_15 := kt hg16 15 k15_15
  have k16_17 := kt hg16 17 (hB16.is 3)
  clear fB15 hB16 hK22 hg16 k15_10 k15_12 k15_13 k15_15 k15_2 k15_5 k15_7 k15_8
  refine wp_seq_k fun K23 hK23 => ?_
  refine wp_seq_k fun K24 hK24 => ?_
  refine region_dk 4 [(115, 0), (116, 1), (117, 2), (118, 3)] [[], [], [1], [0, 1, 2]] (rel [is (.int .i64 (((leftF p os (rowL L k) 3) / 2))),
   is (.int .i64 ((leftF p os (rowL L k) 3))),
   is (.int .i64 (((leftF p os (rowL L k) 3) / 2))),
   is (.bool false)])
   ⟨is_k, is_k, is_k, is_k, trivial⟩
   ⟨fun f s W n q r u x l => opv rfl rfl (by simp [go_sem, l.e 17 k16_17]) rfl,
  fun f s W n q r u x l => opv rfl rfl (by simp [go_sem, l.e 15 k16_15]) rfl,
  fun f s W n q r u x l => by have qu_ : ((leftF p os (rowL L k) 3)).tdiv 2 = ((leftF p os (rowL L k) 3) / 2) := Int.tdiv_eq_ediv_of_nonneg (by omega); have qw_ := IntWalk.i64_in ((leftF p os (rowL L k) 3) / 2) (by omega); exact opv rfl rfl (by simp [go_sem, l.e 116 (q 1 rfl), qu_, qw_]) rfl,
  fun f s W n q r u x l => opv rfl rfl (by simp [go_sem, l.e 115 (q 0 rfl), l.e 117 (q 2 rfl)]) rfl, trivial⟩ ?_
  intro f17 s17 W17 hB17 g17 hg17
  have fB17 := hB17.f fB16
  have z17 := hB17.below.size
  have fA17 := hB17.f fA16
  have q156' := (q155'.bw hB17)
  refine hK24 _ _ ?_
  have k17_2 := kt hg17 2 k16_2
  have k17_5 := kt hg17 5 k16_5
  have k17_7 := kt hg17 7 k16_7
  have k17_8 := kt hg17 8 k16_8
  have k17_10 := kt hg17 10 k16_10
  have k17_12 := kt hg17 12 k16_12
  have k17_13 := kt hg17 13 k16_13
  have k17_15 := kt hg17 15 k16_15
  have k17_17 := kt hg17 17 k16_17
  have k17_118 := kt hg17 118 (hB17.is 3)
  clear fB16 hB17 hK24 hg17 k16_10 k16_12 k16_13 k16_15 k16_17 k16_2 k16_5 k16_7 k16_8
  refine wp_cond_false ((fr_eval rfl).trans k17_118) ?_
  clear k17_118
  refine wp_skip ?_
  refine hK23 _ _ ?_
  clear hK23
  refine wp_seq_k fun K26 hK26 => ?_
  refine region_dk 1 [(18, 0)] [[]] (rel [is (.int .i64 1)])
   ⟨is_k, trivial⟩
   ⟨fun f s W n q r u x l => opv rfl rfl (by simp [go_sem]) rfl, trivial⟩ ?_
  intro f18 s18 W18 hB18 g18 hg18
  have fB18 := hB18.f fB17
  have z18 := hB18.below.size
  have fA18 := hB18.f fA17
  have q157' := (q156'.bw hB18)
  refine hK26 _ _ ?_
  have k18_2 := kt hg18 2 k17_2
  have k18_5 := kt hg18 5 k17_5
  have k18_7 := kt hg18 7 k17_7
  have k18_8 := kt hg18 8 k17_8
  have k18_10 := kt hg18 10 k17_10
  have k18_12 := kt hg18 12 k17_12
  have k18_13 := kt hg18 13 k17_13
  have k18_15 := kt hg18 15 k17_15
  have k18_17 := kt hg18 17 k17_17
  have k18_18 := kt hg18 18 (hB18.is 0)
  clear fB17 hB18 hK26 hg18 k17_10 k17_12 k17_13 k17_15 k17_17 k17_2 k17_5 k17_7 k17_8
  refine wp_seq_k fun K27 hK27 => ?_
  refine wp_seq_k fun K28 hK28 => ?_
  refine region_dk 1 [(19, 0)] [[]] (rel [is (.int .i64 0)])
   ⟨is_k, trivial⟩
   ⟨fun f s W n q r u x l => opv rfl rfl (by simp [go_sem]) rfl, trivial⟩ ?_
  intro f19 s19 W19 hB19 g19 hg19
  have fB19 := hB19.f fB18
  have z19 := hB19.below.size
  have fA19 := hB19.f fA18
  have q158' := (q157'.bw hB19)
  refine hK28 _ _ ?_
  have k19_2 := kt hg19 2 k18_2
  have k19_5 := kt hg19 5 k18_5
  have k19_7 := kt hg19 7 k18_7
  have k19_8 := kt hg19 8 k18_8
  have k19_10 := kt hg19 10 k18_10
  have k19_12 := kt hg19 12 k18_12
  have k19_13 := kt hg19 13 k18_13
  have k19_15 := kt hg19 15 k18_15
  have k19_17 := kt hg19 17 k18_17
  have k19_18 := kt hg19 18 k18_18
  have k19_19 := kt hg19 19 (hB19.is 0)
  clear fB18 hB19 hK28 hg19 k18_10 k18_12 k18_13 k18_15 k18_17 k18_18 k18_2 k18_5 k18_7 k18_8
  refine wp_block ?_
  refine wp_loop_n (fun m_ a_ W_ => ∃ g_ : Nat → Value, a_ = fr 177 g_ ∧ (∃ j : Nat, m_ = 3 - j ∧ g_ 2 = .bool false ∧ g_ 5 = .slice (some ⟨g63', 0, none⟩) (3) (c64') ∧ g_ 7 = .pointer (some ⟨(s4 7), 0, none⟩) ∧ g_ 8 = .slice (some ⟨g71', 0, none⟩) (3) (c72') ∧ g_ 10 = .slice (a108') (L.length) (c109') ∧ g_ 12 = .int .i64 ((k : Int)) ∧ g_ 13 = .slice (some ⟨g143', 0, none⟩) ((cntF (rowL L k) 3)) (c144') ∧ g_ 15 = .int .i64 ((leftF p os (rowL L k) 3)) ∧ g_ 19 = .int .i64 ((j : Int)) ∧ g_ 17 = .int .i64 ((atF os (rowL L k) ((leftF p os (rowL L k) 3) / 2) j)) ∧ g_ 18 = .int .i64 (((cntF (rowL L k) j : Nat) : Int)) ∧ Below w.heap.size w W_ ∧ W19.heap.size ≤ W_.heap.size ∧ Below W10.heap.size W10 W_ ∧ Ii W_ (some ⟨g143', 0, none⟩) (cntF (rowL L k) 3) c144' (knF os (rowL L k) ((leftF p os (rowL L k) 3) / 2) 3) ∧ (j ≤ 3))) ⟨_, g19, rfl, 0, rfl, k19_2, k19_5, k19_7, k19_8, k19_10, k19_12, k19_13, k19_15, k19_19.trans (by rfl), k19_17.trans rfl, k19_18.trans rfl, fB19, Nat.le_refl _, fA19, q158', (by omega)⟩ ?_
  rintro _ _ W_159 ⟨g_159, rfl, j, rfl, k_159_2, k_159_5, k_159_7, k_159_8, k_159_10, k_159_12, k_159_13, k_159_15, k_159_19, k_159_17, k_159_18, fB_159, z_159, fA_159, q160', lj0⟩
  clear fB19 k19_10 k19_12 k19_13 k19_15 k19_17 k19_18 k19_19 k19_2 k19_5 k19_7 k19_8
  refine wp_seq_k fun K29 hK29 => ?_
  refine wp_seq_k fun K30 hK30 => ?_
  refine region_dk 2 [(119, 0), (120, 1)] [[], [0]] (rel [is (.int .i64 ((j : Int))),
   is (.bool (decide ((j : Int) < 3)))])
   ⟨is_k, is_k, trivial⟩
   ⟨fun f s W n q r u x l => opv rfl rfl (by simp [go_sem, l.e 19 k_159_19]) rfl,
  fun f s W n q r u x l => opv rfl rfl (by simp [go_sem, l.e 119 (q 0 rfl)]) rfl, trivial⟩ ?_
  intro f20 s20 W20 hB20 g20 hg20
  have fB20 := hB20.f fB_159
  have z20 := hB20.below.size
  have fA20 := hB20.f fA_159
  have q161' := (q160'.bw hB20)
  refine hK30 _ _ ?_
  have k20_2 := kt hg20 2 k_159_2
  have k20_5 := kt hg20 5 k_159_5
  have k20_7 := kt hg20 7 k_159_7
  have k20_8 := kt hg20 8 k_159_8
  have k20_10 := kt hg20 10 k_159_10
  have k20_12 := kt hg20 12 k_159_12
  have k20_13 := kt hg20 13 k_159_13
  have k20_15 := kt hg20 15 k_159_15
  have k20_19 := kt hg20 19 k_159_19
  have k20_17 := kt hg20 17 k_159_17
  have k20_18 := kt hg20 18 k_159_18
  have k20_120 := kt hg20 120 (hB20.is 1)
  clear hB20 hK30 hg20
  refine wp_cond_split (t := decide ((j : Int) < 3)) ((fr_eval rfl).trans k20_120) (fun hc31 => ?_) (fun hc31 => ?_)
  ·
   have hc31' := hc31; try simp only [ba] at hc31'
   have hj3 : j < 3 := by omega
   have hbj_ := getD_bd hbd_ (by decide) j
   have hoj_ := (ho j hj3).wd
   have hcj_ := cntF_mono (rowL L k) (b := j + 1) 3 hj3
   rw [cntF] at hcj_
   have haj_ := atF_bd3 hbd_ hlb_ ho rfl j (by omega)
   have haj2_ := atF_bd3 hbd_ hlb_ ho rfl (j + 1) (by omega)
   rw [atF] at haj2_
   clear k20_120
   refine wp_skip ?_
   refine hK29 _ _ ?_
   clear hK29
   refine wp_seq_k fun K32 hK32 => ?_
   refine wp_block ?_
   refine wp_seq_k fun K33 hK33 => ?_
   refine region_dk 1 [(20, 0)] [[]] (rel [is (.int .i64 0)])
    ⟨is_k, trivial⟩
    ⟨fun f s W n q r u x l => opv rfl rfl (by simp [go_sem]) rfl, trivial⟩ ?_
   intro f21 s21 W21 hB21 g21 hg21
   have fB21 := hB21.f fB20
   have z21 := hB21.below.size
   have fA21 := hB21.f fA20
   have q162' := (q161'.bw hB21)
   refine hK33 _ _ ?_
   have k21_2 := kt hg21 2 k20_2
   have k21_5 := kt hg21 5 k20_5
   have k21_7 := kt hg21 7 k20_7
   have k21_8 := kt hg21 8 k20_8
   have k21_10 := kt hg21 10 k20_10
   have k21_12 := kt hg21 12 k20_12
   have k21_13 := kt hg21 13 k20_13
   have k21_15 := kt hg21 15 k20_15
   have k21_19 := kt hg21 19 k20_19
   have k21_17 := kt hg21 17 k20_17
   have k21_18 := kt hg21 18 k20_18
   have k21_20 := kt hg21 20 (hB21.is 0)
   clear hB21 hK33 hg21 k20_19
   refine wp_block ?_
   refine wp_loop_n (fun m_ a_ W_ => ∃ g_ : Nat → Value, a_ = fr 177 g_ ∧ (∃ m : Nat, m_ = 5 - m ∧ g_ 2 = .bool false ∧ g_ 5 = .slice (some ⟨g63', 0, none⟩) (3) (c64') ∧ g_ 7 = .pointer (some ⟨(s4 7), 0, none⟩) ∧ g_ 8 = .slice (some ⟨g71', 0, none⟩) (3) (c72') ∧ g_ 10 = .slice (a108') (L.length) (c109') ∧ g_ 12 = .int .i64 ((k : Int)) ∧ g_ 13 = .slice (some ⟨g143', 0, none⟩) ((cntF (rowL L k) 3)) (c144') ∧ g_ 15 = .int .i64 ((leftF p os (rowL L k) 3)) ∧ g_ 19 = .int .i64 ((j : Int)) ∧ g_ 20 = .int .i64 ((m : Int)) ∧ g_ 17 = .int .i64 (((atF os (rowL L k) ((leftF p os (rowL L k) 3) / 2) j) + ((os j).wd * (m : Int)))) ∧ g_ 18 = .int .i64 (((cntM (rowL L k) j m : Nat) : Int)) ∧ Below w.heap.size w W_ ∧ W21.heap.size ≤ W_.heap.size ∧ Below W10.heap.size W10 W_ ∧ Ii W_ (some ⟨g143', 0, none⟩) (cntF (rowL L k) 3) c144' (knF os (rowL L k) ((leftF p os (rowL L k) 3) / 2) 3) ∧ (m ≤ (elT (rowL L k) j).toNat))) ⟨_, g21, rfl, 0, rfl, k21_2, k21_5, k21_7, k21_8, k21_10, k21_12, k21_13, k21_15, k21_19, k21_20.trans (by rfl), k21_17.trans (by rw [show ((0 : Nat) : Int) = 0 from rfl, Int.mul_zero, Int.add_zero]), k21_18.trans rfl, fB21, Nat.le_refl _, fA21, q162', (by omega)⟩ ?_
   rintro _ _ W_163 ⟨g_163, rfl, m, rfl, k_163_2, k_163_5, k_163_7, k_163_8, k_163_10, k_163_12, k_163_13, k_163_15, k_163_19, k_163_20, k_163_17, k_163_18, fB_163, z_163, fA_163, q164', lm0⟩
   have dq5 : (decide ((m : Int) < 5)) = true := decide_eq_true (by omega)
   clear fB21 k21_10 k21_12 k21_13 k21_15 k21_17 k21_18 k21_19 k21_2 k21_20 k21_5 k21_7 k21_8
   refine wp_seq_k fun K34 hK34 => ?_
   refine wp_seq_k fun K35 hK35 => ?_
   refine region_dk 13 [(123, 0), (124, 1), (125, 2), (126, 3), (127, 4), (128, 5), (129, 6), (130, 7), (131, 8), (132, 9), (133, 10), (134, 11), (135, 12)] [[], [], [], [1, 2], [1, 2, 3], [], [1, 2, 3, 4, 5], [1, 2, 3, 4, 5, 6], [0, 1, 2, 3, 4, 5, 6, 7], [0, 1, 2, 3, 4, 5, 6, 7, 8], [0, 1, 2, 3, 4, 5, 6, 7, 8, 9], [0, 1, 2, 3, 4, 5, 6, 7, 8, 9, 10], [0, 1, 2, 3, 4, 5, 6, 7, 8, 9, 10, 11]] (rel [is (.int .i64 ((m : Int))),
   is (.slice (a108') (L.length) (c109')),
   is (.int .i64 ((k : Int))),
   is (.pointer (some ⟨b110', o111' + k, none⟩)),
   is (.slice ((ad112' k)) ((rowL L k).length) ((cp113' k))),
   is (.int .i64 ((j : Int))),
   is (.pointer (some ⟨bwk, owk + j, none⟩)),
   is (.int .i64 ((elT (rowL L k) j))),
   is (.bool (decide ((m : Int) < (elT (rowL L k) j)))),
   is (.bool (decide ((m : Int) < (elT (rowL L k) j)))),
   gd (decide ((m : Int) < (elT (rowL L k) j))) true (is (.int .i64 ((m : Int)))),
   gd (decide ((m : Int) < (elT (rowL L k) j))) true (is (.bool true)),
   is (.bool (decide ((m : Int) < (elT (rowL L k) j))))])
    ⟨is_k, is_k, is_k, is_k, is_k, is_k, is_k, is_k, is_k, is_k, gd_k (is_k), gd_k (is_k), is_k, trivial⟩
    ⟨fun f s W n q r u x l => opv rfl rfl (by simp [go_sem, l.e 20 k_163_20]) rfl,
  fun f s W n q r u x l => opv rfl rfl (by simp [go_sem, l.e 10 k_163_10]) rfl,
  fun f s W n q r u x l => opv rfl rfl (by simp [go_sem, l.e 12 k_163_12]) rfl,
  fun f s W n q r u x l => by have li_ := Nat.not_le.2 hk3; have li2_ : (k : Int) < (L.length : Int) := (by omega); have hab := q131' (by omega); exact opv rfl rfl (by simp [go_sem, l.e 124 (q 1 rfl), l.e 125 (q 2 rfl), li_, li2_, hab]) rfl,
  fun f s W n q r u x l => by have aW := below_trans fA_163 n; have cu_ : W.cell? ⟨b110', o111' + k, none⟩ = some (.slice (ad112' k) (rowL L k).length (cp113' k)) := ((q130'.below aW).2 k hk3).1; exact opv rfl rfl (by simp [go_sem, l.e 126 (q 3 rfl), cu_]) rfl,
  fun f s W n q r u x l => opv rfl rfl (by simp [go_sem, l.e 19 k_163_19]) rfl,
  fun f s W n q r u x l => by have hab := hwk; have li_ := Nat.not_le.2 (show j < (rowL L k).length by omega); have li2_ : (j : Int) < ((rowL L k).length : Int) := (by omega); exact opv rfl rfl (by simp [go_sem, l.e 127 (q 4 rfl), l.e 128 (q 5 rfl), hab, li_, li2_]) rfl,
  fun f s W n q r u x l => by have aW := below_trans fA_163 n; have cu_ := ii_atn (xs := rowL L k) ((q130'.below aW).2 k hk3).2 hwk (show j < (rowL L k).length by omega); exact opv rfl rfl (by simp [go_sem, l.e 129 (q 6 rfl), cu_]) rfl,
  fun f s W n q r u x l => opv rfl rfl (by simp [go_sem, l.e 123 (q 0 rfl), l.e 130 (q 7 rfl)]) rfl,
  fun f s W n q r u x l => opv rfl rfl (by simp [go_sem, l.e 131 (q 8 rfl)]) rfl,
  fun f s W n q r u x l => gdo rfl rfl (l.says (d := 132) rfl rfl (q 9 rfl)) fun hgd0 => gv (by simp [go_sem, l.e 20 k_163_20]) rfl,
  fun f s W n q r u x l => gdo rfl rfl (l.says (d := 132) rfl rfl (q 9 rfl)) fun hgd0 => gv (by simp [go_sem, l.e 133 ((q 10 rfl).1 hgd0), dq5]) rfl,
  fun f s W n q r u x l => opk (c := decide ((m : Int) < (elT (rowL L k) j))) rfl rfl (fun hpk => by first | (simp [go_sem, hpk, l.e 132 (q 9 rfl)]; done) | (have hpk' := hpk; simp at hpk'; simp [go_sem, hpk', hpk, l.e 132 (q 9 rfl)])) (fun hpk => by first | (simp [go_sem, hpk, l.e 132 (q 9 rfl), l.e 134 ((q 11 rfl).1 hpk)]; done) | (have hpk' := hpk; simp at hpk'; simp [go_sem, hpk', hpk, l.e 132 (q 9 rfl), l.e 134 ((q 11 rfl).1 hpk)])), trivial⟩ ?_
   intro f22 s22 W22 hB22 g22 hg22
   have fB22 := hB22.f fB_163
   have z22 := hB22.below.size
   have fA22 := hB22.f fA_163
   have q165' := (q164'.bw hB22)
   refine hK35 _ _ ?_
   have k22_2 := kt hg22 2 k_163_2
   have k22_5 := kt hg22 5 k_163_5
   have k22_7 := kt hg22 7 k_163_7
   have k22_8 := kt hg22 8 k_163_8
   have k22_10 := kt hg22 10 k_163_10
   have k22_12 := kt hg22 12 k_163_12
   have k22_13 := kt hg22 13 k_163_13
   have k22_15 := kt hg22 15 k_163_15
   have k22_19 := kt hg22 19 k_163_19
   have k22_20 := kt hg22 20 k_163_20
   have k22_17 := kt hg22 17 k_163_17
   have k22_18 := kt hg22 18 k_163_18
   have k22_135 := kt hg22 135 (hB22.is 12)
   clear hB22 hg22
   refine wp_cond_split (t := decide ((m : Int) < (elT (rowL L k) j))) ((fr_eval rfl).trans k22_135) (fun hc36 => ?_) (fun hc36 => ?_)
   ·
    have hc36' := hc36; try simp only [ba] at hc36'
    have hcm_ : cntM (rowL L k) j m = cntF (rowL L k) j + m := rfl
    have hmj_ : m < (elT (rowL L k) j).toNat := by omega
    have hmw_ := tr_mul (show 0 ≤ (os j).wd ∧ (os j).wd ≤ 3000 by omega) (show 0 ≤ (m : Int) ∧ (m : Int) ≤ 4 by omega)
    have dqc2 : cntM (rowL L k) j m < (cntF (rowL L k) 3) := (by omega)
    have dqc : (decide (((cntF (rowL L k) 3) : Int) ≤ ((cntM (rowL L k) j m : Nat) : Int))) = false := decide_eq_false (by omega)
    have dqe : ((((atF os (rowL L k) ((leftF p os (rowL L k) 3) / 2) j) + ((os j).wd * (m : Int))) + ((os j).wd)) != (((atF os (rowL L k) ((leftF p os (rowL L k) 3) / 2) j) + ((os j).wd * (m : Int))) + ((os j).wd))) = false := bne_self_eq_false _
    clear k22_135
    refine wp_skip ?_
    refine hK34 _ _ ?_
    refine wp_seq_k fun K37 hK37 => ?_
    refine wp_block ?_
    refine wp_seq_k fun K38 hK38 => ?_
    refine region_dk 7 [(138, 0), (139, 1), (140, 2), (141, 3), (142, 4), (143, 5), (17, 6)] [[], [], [], [1, 2], [1, 2, 3], [0, 1, 2, 3, 4], [0, 1, 2, 3, 4, 5]] (rel [is (.int .i64 (((atF os (rowL L k) ((leftF p os (rowL L k) 3) / 2) j) + ((os j).wd * (m : Int))))),
   is (.slice (some ⟨g63', 0, none⟩) (3) (c64')),
   is (.int .i64 ((j : Int))),
   is (.pointer (some ⟨g63', j, none⟩)),
   is (.int .i64 ((os j).wd)),
   is (.int .i64 (((atF os (rowL L k) ((leftF p os (rowL L k) 3) / 2) j) + ((os j).wd * (m : Int))) + ((os j).wd))),
   is (.int .i64 (((atF os (rowL L k) ((leftF p os (rowL L k) 3) / 2) j) + ((os j).wd * (m : Int))) + ((os j).wd)))])
     ⟨is_k, is_k, is_k, is_k, is_k, is_k, is_k, trivial⟩
     ⟨fun f s W n q r u x l => opv rfl rfl (by simp [go_sem, l.e 17 ((u 6 17 rfl rfl).trans k22_17)]) rfl,
  fun f s W n q r u x l => opv rfl rfl (by simp [go_sem, l.e 5 k22_5]) rfl,
  fun f s W n q r u x l => opv rfl rfl (by simp [go_sem, l.e 19 k22_19]) rfl,
  fun f s W n q r u x l => by have li_ := Nat.not_le.2 (show j < 3 by omega); have li2_ : (j : Int) < 3 := (by omega); exact opv rfl rfl (by simp [go_sem, l.e 139 (q 1 rfl), l.e 140 (q 2 rfl), li_, li2_]) rfl,
  fun f s W n q r u x l => by have aW := below_trans fA22 n; have cu_ := ii_at3 (q124'.below aW (Nat.le_refl _)) hj3; rw [← hall j hj3] at cu_; exact opv rfl rfl (by simp [go_sem, l.e 141 (q 3 rfl), cu_]) rfl,
  fun f s W n q r u x l => opv rfl rfl (by simp [go_sem, l.e 138 (q 0 rfl), l.e 142 (q 4 rfl), IntWalk.i64_in (((atF os (rowL L k) ((leftF p os (rowL L k) 3) / 2) j) + ((os j).wd * (m : Int))) + ((os j).wd)) (by omega)]) rfl,
  fun f s W n q r u x l => opv rfl rfl (by simp [go_sem, l.e 143 (q 5 rfl)]) rfl, trivial⟩ ?_
    intro f23 s23 W23 hB23 g23 hg23
    have fB23 := hB23.f fB22
    have z23 := hB23.below.size
    have fA23 := hB23.f fA22
    have q166' := (q165'.bw hB23)
    refine hK38 _ _ ?_
    have k23_2 := kt hg23 2 k22_2
    have k23_5 := kt hg23 5 k22_5
    have k23_7 := kt hg23 7 k22_7
    have k23_8 := kt hg23 8 k22_8
    have k23_10 := kt hg23 10 k22_10
    have k23_12 := kt hg23 12 k22_12
    have k23_13 := kt hg23 13 k22_13
    have k23_15 := kt hg23 15 k22_15
    have k23_19 := kt hg23 19 k22_19
    have k23_20 := kt hg23 20 k22_20
    have k23_18 := kt hg23 18 k22_18
    have k23_17 := kt hg23 17 (hB23.is 6)
    clear hB23 hg23
    refine wp_seq_k fun K39 hK39 => ?_
    refine wp_seq_k fun K40 hK40 => ?_
    refine region_dk 12 [(144, 0), (145, 1), (146, 2), (147, 3), (148, 4), (149, 5), (150, 6), (151, 7), (152, 8), (153, 9), (154, 10), (155, 11)] [[], [], [1], [0, 1, 2], [0, 1, 2, 3], [0, 1, 2, 3, 4], [0, 1, 2, 3, 4], [0, 1, 2, 3, 4, 5, 6], [0, 1, 2, 3, 4, 5, 6, 7], [0, 1, 2, 3, 4], [0, 1, 2, 3, 4, 5, 6, 7, 8, 9], [0, 1, 2, 3, 4, 5, 6, 7, 8, 9, 10]] (rel [is (.int .i64 (((cntM (rowL L k) j m : Nat) : Int))),
   is (.slice (some ⟨g143', 0, none⟩) ((cntF (rowL L k) 3)) (c144')),
   is (.int .i64 (((cntF (rowL L k) 3) : Int))),
   is (.bool false),
   is (.bool false),
   is (.slice (some ⟨g143', 0, none⟩) ((cntF (rowL L k) 3)) (c144')),
   is (.int .i64 (((cntM (rowL L k) j m : Nat) : Int))),
   is (.pointer (some ⟨g143', cntM (rowL L k) j m, none⟩)),
   is (.int .i64 ((((atF os (rowL L k) ((leftF p os (rowL L k) 3) / 2) j) + ((os j).wd * (m : Int))) + ((os j).wd)))),
   is (.int .i64 (((atF os (rowL L k) ((leftF p os (rowL L k) 3) / 2) j) + ((os j).wd * (m : Int))) + ((os j).wd))),
   is (.bool false),
   is (.bool false)])
     ⟨is_k, is_k, is_k, is_k, is_k, is_k, is_k, is_k, is_k, is_k, is_k, is_k, trivial⟩
     ⟨fun f s W n q r u x l => opv rfl rfl (by simp [go_sem, l.e 18 k23_18]) rfl,
  fun f s W n q r u x l => opv rfl rfl (by simp [go_sem, l.e 13 k23_13]) rfl,
  fun f s W n q r u x l => opv rfl rfl (by simp [go_sem, l.e 145 (q 1 rfl)]) rfl,
  fun f s W n q r u x l => opv rfl rfl (by simp [go_sem, l.e 144 (q 0 rfl), l.e 146 (q 2 rfl), dqc, dqc2]) rfl,
  fun f s W n q r u x l => opv rfl rfl (by simp [go_sem, l.e 147 (q 3 rfl)]) rfl,
  fun f s W n q r u x l => osure rfl rfl (l.says (d := 148) rfl rfl (q 4 rfl)) (gv (by simp [go_sem, l.e 13 k23_13]) rfl),
  fun f s W n q r u x l => osure rfl rfl (l.says (d := 148) rfl rfl (q 4 rfl)) (gv (by simp [go_sem, l.e 18 k23_18]) rfl),
  fun f s W n q r u x l => osure rfl rfl (l.says (d := 148) rfl rfl (q 4 rfl)) (by have li_ := Nat.not_le.2 (show cntM (rowL L k) j m < (cntF (rowL L k) 3) by omega); have li2_ : ((cntM (rowL L k) j m : Nat) : Int) < ((cntF (rowL L k) 3) : Int) := (by omega); exact gv (by simp [go_sem, l.e 149 (q 5 rfl), l.e 150 (q 6 rfl), li_, li2_]) rfl),
  fun f s W n q r u x l => osure rfl rfl (l.says (d := 148) rfl rfl (q 4 rfl)) (by have cu_ := ii_atn (q166'.below n (Nat.le_refl _)) rfl (show cntM (rowL L k) j m < (cntF (rowL L k) 3) by omega); rw [knF_atM os (rowL L k) ((leftF p os (rowL L k) 3) / 2) hmj_ 3 hj3, Int.mul_add, Int.mul_one, ← Int.add_assoc, Nat.zero_add] at cu_; exact gv (by simp [go_sem, l.e 151 (q 7 rfl), cu_]) rfl),
  fun f s W n q r u x l => osure rfl rfl (l.says (d := 148) rfl rfl (q 4 rfl)) (gv (by simp [go_sem, l.e 17 k23_17]) rfl),
  fun f s W n q r u x l => osure rfl rfl (l.says (d := 148) rfl rfl (q 4 rfl)) (gv (by simp [go_sem, l.e 152 (q 8 rfl), l.e 153 (q 9 rfl), dqe]) rfl),
  fun f s W n q r u x l => opk (c := false) rfl rfl (fun _ => by simp [go_sem, l.e 148 (q 4 rfl), l.e 154 (q 10 rfl)]) (fun h => absurd h (by decide)), trivial⟩ ?_
    intro f24 s24 W24 hB24 g24 hg24
    have fB24 := hB24.f fB23
    have z24 := hB24.below.size
    have fA24 := hB24.f fA23
    have q167' := (q166'.bw hB24)
    refine hK40 _ _ ?_
    have k24_2 := kt hg24 2 k23_2
    have k24_5 := kt hg24 5 k23_5
    have k24_7 := kt hg24 7 k23_7
    have k24_8 := kt hg24 8 k23_8
    have k24_10 := kt hg24 10 k23_10
    have k24_12 := kt hg24 12 k23_12
    have k24_13 := kt hg24 13 k23_13
    have k24_15 := kt hg24 15 k23_15
    have k24_19 := kt hg24 19 k23_19
    have k24_20 := kt hg24 20 k23_20
    have k24_18 := kt hg24 18 k23_18
    have k24_17 := kt hg24 17 k23_17
    have k24_155 := kt hg24 155 (hB24.is 11)
    clear hB24 hg24
    refine wp_cond_false ((fr_eval rfl).trans k24_155) ?_
    clear k24_155
    refine wp_skip ?_
    refine hK39 _ _ ?_
    refine region_dk 3 [(156, 0), (157, 1), (18, 2)] [[], [0], [0, 1]] (rel [is (.int .i64 (((cntM (rowL L k) j m : Nat) : Int))),
   is (.int .i64 (((cntM (rowL L k) j m : Nat) : Int) + 1)),
   is (.int .i64 (((cntM (rowL L k) j m : Nat) : Int) + 1))])
     ⟨is_k, is_k, is_k, trivial⟩
     ⟨fun f s W n q r u x l => opv rfl rfl (by simp [go_sem, l.e 18 ((u 2 18 rfl rfl).trans k24_18)]) rfl,
  fun f s W n q r u x l => opv rfl rfl (by simp [go_sem, l.e 156 (q 0 rfl), IntWalk.i64_in (((cntM (rowL L k) j m : Nat) : Int) + 1) (by omega)]) rfl,
  fun f s W n q r u x l => opv rfl rfl (by simp [go_sem, l.e 157 (q 1 rfl)]) rfl, trivial⟩ ?_
    intro f25 s25 W25 hB25 g25 hg25
    have fB25 := hB25.f fB24
    have z25 := hB25.below.size
    have fA25 := hB25.f fA24
    have q168' := (q167'.bw hB25)
    refine wpOps_end ?_
    have k25_2 := kt hg25 2 k24_2
    have k25_5 := kt hg25 5 k24_5
    have k25_7 := kt hg25 7 k24_7
    have k25_8 := kt hg25 8 k24_8
    have k25_10 := kt hg25 10 k24_10
    have k25_12 := kt hg25 12 k24_12
    have k25_13 := kt hg25 13 k24_13
    have k25_15 := kt hg25 15 k24_15
    have k25_19 := kt hg25 19 k24_19
    have k25_20 := kt hg25 20 k24_20
    have k25_17 := kt hg25 17 k24_17
    have k25_18 := kt hg25 18 (hB25.is 2)
    refine inBlock_normal ?_
    refine hK37 _ _ ?_
    refine region_dk 3 [(136, 0), (137, 1), (20, 2)] [[], [0], [0, 1]] (rel [is (.int .i64 ((m : Int))),
   is (.int .i64 ((m : Int) + 1)),
   is (.int .i64 ((m : Int) + 1))])
     ⟨is_k, is_k, is_k, trivial⟩
     ⟨fun f s W n q r u x l => opv rfl rfl (by simp [go_sem, l.e 20 ((u 2 20 rfl rfl).trans k25_20)]) rfl,
  fun f s W n q r u x l => opv rfl rfl (by simp [go_sem, l.e 136 (q 0 rfl), IntWalk.i64_in ((m : Int) + 1) (by omega)]) rfl,
  fun f s W n q r u x l => opv rfl rfl (by simp [go_sem, l.e 137 (q 1 rfl)]) rfl, trivial⟩ ?_
    intro f26 s26 W26 hB26 g26 hg26
    have fB26 := hB26.f fB25
    have z26 := hB26.below.size
    have fA26 := hB26.f fA25
    have q169' := (q168'.bw hB26)
    refine wpOps_end ?_
    have k26_2 := kt hg26 2 k25_2
    have k26_5 := kt hg26 5 k25_5
    have k26_7 := kt hg26 7 k25_7
    have k26_8 := kt hg26 8 k25_8
    have k26_10 := kt hg26 10 k25_10
    have k26_12 := kt hg26 12 k25_12
    have k26_13 := kt hg26 13 k25_13
    have k26_15 := kt hg26 15 k25_15
    have k26_19 := kt hg26 19 k25_19
    have k26_17 := kt hg26 17 k25_17
    have k26_18 := kt hg26 18 k25_18
    have k26_20 := kt hg26 20 (hB26.is 2)
    refine then_normal ?_
    exact ⟨_, by omega, g26, rfl, m + 1, rfl, k26_2, k26_5, k26_7, k26_8, k26_10, k26_12, k26_13, k26_15, k26_19, k26_20.trans (by go_num), k26_17.trans (by rw [Int.natCast_succ, Int.mul_add, Int.mul_one, Int.add_assoc]), k26_18.trans rfl, fB26, (by omega), fA26, q169', (by omega)⟩
   ·
    have hc36' := hc36; try simp only [ba] at hc36'
    have hcm_ : cntM (rowL L k) j m = cntF (rowL L k) j + m := rfl
    have hmj_ : m = (elT (rowL L k) j).toNat := by omega
    refine wp_exit ?_
    refine then_exit ?_
    refine then_exit ?_
    refine inBlock_at ?_
    refine inBlock_normal ?_
    refine hK32 _ _ ?_
    refine region_dk 3 [(121, 0), (122, 1), (19, 2)] [[], [0], [0, 1]] (rel [is (.int .i64 ((j : Int))),
   is (.int .i64 ((j : Int) + 1)),
   is (.int .i64 ((j : Int) + 1))])
     ⟨is_k, is_k, is_k, trivial⟩
     ⟨fun f s W n q r u x l => opv rfl rfl (by simp [go_sem, l.e 19 ((u 2 19 rfl rfl).trans k22_19)]) rfl,
  fun f s W n q r u x l => opv rfl rfl (by simp [go_sem, l.e 121 (q 0 rfl), IntWalk.i64_in ((j : Int) + 1) (by omega)]) rfl,
  fun f s W n q r u x l => opv rfl rfl (by simp [go_sem, l.e 122 (q 1 rfl)]) rfl, trivial⟩ ?_
    intro f27 s27 W27 hB27 g27 hg27
    have fB27 := hB27.f fB22
    have z27 := hB27.below.size
    have fA27 := hB27.f fA22
    have q170' := (q165'.bw hB27)
    refine wpOps_end ?_
    have k27_2 := kt hg27 2 k22_2
    have k27_5 := kt hg27 5 k22_5
    have k27_7 := kt hg27 7 k22_7
    have k27_8 := kt hg27 8 k22_8
    have k27_10 := kt hg27 10 k22_10
    have k27_12 := kt hg27 12 k22_12
    have k27_13 := kt hg27 13 k22_13
    have k27_15 := kt hg27 15 k22_15
    have k27_17 := kt hg27 17 k22_17
    have k27_18 := kt hg27 18 k22_18
    have k27_19 := kt hg27 19 (hB27.is 2)
    refine then_normal ?_
    exact ⟨_, by omega, g27, rfl, j + 1, rfl, k27_2, k27_5, k27_7, k27_8, k27_10, k27_12, k27_13, k27_15, k27_19.trans (by go_num), k27_17.trans (by rw [atF, hmj_, Int.toNat_of_nonneg hbj_.1, Int.mul_comm]), k27_18.trans (by rw [cntF, cntM, hmj_]), fB27, (by omega), fA27, q170', (by omega)⟩
  ·
   have hc31' := hc31; try simp only [ba] at hc31'
   have hj3 : j = 3 := by omega
   have haj_ := atF_bd3 hbd_ hlb_ ho rfl j (by omega)
   have dqa : ((((atF os (rowL L k) ((leftF p os (rowL L k) 3) / 2) j) + (leftF p os (rowL L k) 3)) - ((leftF p os (rowL L k) 3) / 2)) != p.wide) = false := bne_eq_false_iff_eq.2 (by rw [hj3]; omega)
   have dqk : (((cntF (rowL L k) j : Nat) : Int) != ((cntF (rowL L k) 3) : Int)) = false := by rw [hj3]; exact bne_self_eq_false _
   refine wp_exit ?_
   refine then_exit ?_
   refine then_exit ?_
   refine inBlock_at ?_
   refine hK27 _ _ ?_
   clear hK27
   refine wp_seq_k fun K42 hK42 => ?_
   refine region_dk 15 [(158, 0), (159, 1), (160, 2), (161, 3), (162, 4), (163, 5), (164, 6), (165, 7), (166, 8), (167, 9), (168, 10), (169, 11), (170, 12), (171, 13), (172, 14)] [[], [], [1], [0, 1, 2], [0, 1, 2, 3], [0, 1, 2, 3, 4], [0, 1, 2, 3, 4], [0, 1, 2, 3, 4, 5, 6], [0, 1, 2, 3, 4], [0, 1, 2, 3, 4, 8], [0, 1, 2, 3, 4, 5, 6, 7, 8, 9], [0, 1, 2, 3, 4], [0, 1, 2, 3, 4, 11], [0, 1, 2, 3, 4, 5, 6, 7, 8, 9, 10, 11, 12], [0, 1, 2, 3, 4, 5, 6, 7, 8, 9, 10, 11, 12, 13]] (rel [is (.int .i64 (((cntF (rowL L k) j : Nat) : Int))),
   is (.slice (some ⟨g143', 0, none⟩) ((cntF (rowL L k) 3)) (c144')),
   is (.int .i64 (((cntF (rowL L k) 3) : Int))),
   is (.bool false),
   is (.bool false),
   is (.int .i64 ((atF os (rowL L k) ((leftF p os (rowL L k) 3) / 2) j))),
   is (.int .i64 ((leftF p os (rowL L k) 3))),
   is (.int .i64 ((atF os (rowL L k) ((leftF p os (rowL L k) 3) / 2) j) + (leftF p os (rowL L k) 3))),
   is (.int .i64 ((leftF p os (rowL L k) 3))),
   is (.int .i64 (((leftF p os (rowL L k) 3) / 2))),
   is (.int .i64 (((atF os (rowL L k) ((leftF p os (rowL L k) 3) / 2) j) + (leftF p os (rowL L k) 3)) - ((leftF p os (rowL L k) 3) / 2))),
   is (.pointer (some ⟨(s4 7), 0, none⟩)),
   is (.int .i64 p.wide),
   is (.bool false),
   is (.bool false)])
    ⟨is_k, is_k, is_k, is_k, is_k, is_k, is_k, is_k, is_k, is_k, is_k, is_k, is_k, is_k, is_k, trivial⟩
    ⟨fun f s W n q r u x l => opv rfl rfl (by simp [go_sem, l.e 18 k20_18]) rfl,
  fun f s W n q r u x l => opv rfl rfl (by simp [go_sem, l.e 13 k20_13]) rfl,
  fun f s W n q r u x l => opv rfl rfl (by simp [go_sem, l.e 159 (q 1 rfl)]) rfl,
  fun f s W n q r u x l => opv rfl rfl (by simp [go_sem, l.e 158 (q 0 rfl), l.e 160 (q 2 rfl), dqk]) rfl,
  fun f s W n q r u x l => opv rfl rfl (by simp [go_sem, l.e 161 (q 3 rfl)]) rfl,
  fun f s W n q r u x l => osure rfl rfl (l.says (d := 162) rfl rfl (q 4 rfl)) (gv (by simp [go_sem, l.e 17 k20_17]) rfl),
  fun f s W n q r u x l => osure rfl rfl (l.says (d := 162) rfl rfl (q 4 rfl)) (gv (by simp [go_sem, l.e 15 k20_15]) rfl),
  fun f s W n q r u x l => osure rfl rfl (l.says (d := 162) rfl rfl (q 4 rfl)) (gv (by simp [go_sem, l.e 163 (q 5 rfl), l.e 164 (q 6 rfl), IntWalk.i64_in ((atF os (rowL L k) ((leftF p os (rowL L k) 3) / 2) j) + (leftF p os (rowL L k) 3)) (by omega)]) rfl),
  fun f s W n q r u x l => osure rfl rfl (l.says (d := 162) rfl rfl (q 4 rfl)) (gv (by simp [go_sem, l.e 15 k20_15]) rfl),
  fun f s W n q r u x l => osure rfl rfl (l.says (d := 162) rfl rfl (q 4 rfl)) (by have qu_ : ((leftF p os (rowL L k) 3)).tdiv 2 = ((leftF p os (rowL L k) 3) / 2) := Int.tdiv_eq_ediv_of_nonneg (by omega); have qw_ := IntWalk.i64_in ((leftF p os (rowL L k) 3) / 2) (by omega); exact gv (by simp [go_sem, l.e 166 (q 8 rfl), qu_, qw_]) rfl),
  fun f s W n q r u x l => osure rfl rfl (l.says (d := 162) rfl rfl (q 4 rfl)) (gv (by simp [go_sem, l.e 165 (q 7 rfl), l.e 167 (q 9 rfl), IntWalk.i64_in (((atF os (rowL L k) ((leftF p os (rowL L k) 3) / 2) j) + (leftF p os (rowL L k) 3)) - ((leftF p os (rowL L k) 3) / 2)) (by omega)]) rfl),
  fun f s W n q r u x l => osure rfl rfl (l.says (d := 162) rfl rfl (q 4 rfl)) (gv (by simp [go_sem, l.e 7 k20_7]) rfl),
  fun f s W n q r u x l => osure rfl rfl (l.says (d := 162) rfl rfl (q 4 rfl)) (by have aW := below_trans fA20 n; exact gv (by simp [go_sem, l.e 169 (q 11 rfl), cb b10_1 aW 0]) rfl),
  fun f s W n q r u x l => osure rfl rfl (l.says (d := 162) rfl rfl (q 4 rfl)) (gv (by simp [go_sem, l.e 168 (q 10 rfl), l.e 170 (q 12 rfl), dqa]) rfl),
  fun f s W n q r u x l => opk (c := false) rfl rfl (fun _ => by simp [go_sem, l.e 162 (q 4 rfl), l.e 171 (q 13 rfl)]) (fun h => absurd h (by decide)), trivial⟩ ?_
   clear b10_1 k20_13 k20_15 k20_17 k20_18
   intro f28 s28 W28 hB28 g28 hg28
   have fB28 := hB28.f fB20
   have z28 := hB28.below.size
   have fA28 := hB28.f fA20
   have q171' := (q161'.bw hB28)
   refine hK42 _ _ ?_
   have k28_2 := kt hg28 2 k20_2
   have k28_5 := kt hg28 5 k20_5
   have k28_7 := kt hg28 7 k20_7
   have k28_8 := kt hg28 8 k20_8
   have k28_10 := kt hg28 10 k20_10
   have k28_12 := kt hg28 12 k20_12
   have k28_172 := kt hg28 172 (hB28.is 14)
   clear fB20 hB28 hg28 k20_10 k20_12 k20_2 k20_5 k20_7 k20_8
   refine wp_cond_false ((fr_eval rfl).trans k28_172) ?_
   clear k28_172
   refine wp_skip ?_
   refine inBlock_normal ?_
   refine hK16 _ _ ?_
   refine region_dk 3 [(60, 0), (61, 1), (12, 2)] [[], [0], [0, 1]] (rel [is (.int .i64 ((k : Int))),
   is (.int .i64 ((k : Int) + 1)),
   is (.int .i64 ((k : Int) + 1))])
    ⟨is_k, is_k, is_k, trivial⟩
    ⟨fun f s W n q r u x l => opv rfl rfl (by simp [go_sem, l.e 12 ((u 2 12 rfl rfl).trans k28_12)]) rfl,
  fun f s W n q r u x l => opv rfl rfl (by simp [go_sem, l.e 60 (q 0 rfl), IntWalk.i64_in ((k : Int) + 1) (by omega)]) rfl,
  fun f s W n q r u x l => opv rfl rfl (by simp [go_sem, l.e 61 (q 1 rfl)]) rfl, trivial⟩ ?_
   clear hK16
   intro f29 s29 W29 hB29 g29 hg29
   have fB29 := hB29.f fB28
   have z29 := hB29.below.size
   have fA29 := hB29.f fA28
   have q172' := (q171'.bw hB29)
   refine wpOps_end ?_
   have k29_2 := kt hg29 2 k28_2
   have k29_5 := kt hg29 5 k28_5
   have k29_7 := kt hg29 7 k28_7
   have k29_8 := kt hg29 8 k28_8
   have k29_10 := kt hg29 10 k28_10
   have k29_12 := kt hg29 12 (hB29.is 2)
   refine then_normal ?_
   exact ⟨_, by omega, g29, rfl, k + 1, rfl, k29_2, k29_5, k29_7, k29_8, k29_10, k29_12.trans (by go_num), fB29, (by omega), fA29, (by omega)⟩
 ·
  have hc15' := hc15; try simp only [ba] at hc15'
  have hk3 : k = L.length := by omega
  refine wp_exit ?_
  refine then_exit ?_
  refine then_exit ?_
  refine inBlock_at ?_
  refine hK11 _ _ ?_
  clear hK11
  refine wp_seq_k fun K44 hK44 => ?_
  refine region_dk 5 [(173, 0), (174, 1), (175, 2), (176, 3), (2, 4)] [[], [0], [0, 1], [0, 1, 2], [0, 1, 2, 3]] (rel [is (.bool true),
   is (.bool true),
   is (.bool true),
   is (.bool true),
   is (.bool true)])
   ⟨is_k, is_k, is_k, is_k, is_k, trivial⟩
   ⟨fun f s W n q r u x l => opc rfl rfl (by simp [go_sem]) (pubScore_yes W),
  fun f s W n q r u x l => opv rfl rfl (by simp [go_sem, l.e 173 (q 0 rfl)]) rfl,
  fun f s W n q r u x l => osure rfl rfl (l.says (d := 174) rfl rfl (q 1 rfl)) (gc (by simp [go_sem]) (pubTrim_yes W)),
  fun f s W n q r u x l => opk (c := true) rfl rfl (fun h => absurd h (by decide)) (fun _ => by simp [go_sem, l.e 174 (q 1 rfl), l.e 175 (q 2 rfl)]),
  fun f s W n q r u x l => opv rfl rfl (by simp [go_sem, l.e 176 (q 3 rfl)]) rfl, trivial⟩ ?_
  intro f30 s30 W30 hB30 g30 hg30
  have fB30 := hB30.f fB12
  have z30 := hB30.below.size
  have fA30 := hB30.f fA12
  refine hK44 _ _ ?_
  have k30_2 := kt hg30 2 (hB30.is 4)
  clear fB12 hB30 hK44 hg30
  refine wp_ret ?_
  refine leave_one (N := 177) (v := .bool true) (.inr rfl) Try.results3 rfl k30_2 ?_
  exact ⟨rfl, fB30⟩
end Go.Proofs.Ytnhipdbdolabkaa
