/- Part of the proof: what the claim leans on. -/
import Derived.Test.YtnhipdbdolabkaaWAH
import Derived.Test.YtnhipdbdolabkaaWAG
import Derived.Test.YtnhipdbdolabkaaWAI
import Derived.Test.YtnhipdbdolabkaaWAE
import Derived.Test.YtnhipdbdolabkaaWAL
set_option linter.unusedSimpArgs false
set_option linter.unusedVariables false
namespace Go.Proofs.Ytnhipdbdolabkaa
open Go.RowKit
/-- Where a row does not lie. -/
def Out (S V : Nat) (a : Option Addr) : Prop := ∀ k, a = some ⟨k, 0, none⟩ → k < S ∨ V ≤ k
/-- What was made between two worlds is kept. -/
def KeepI (S : Nat) (V W : World) : Prop := V.heap.size ≤ W.heap.size ∧ ∀ k x, S ≤ k → k < V.heap.size → V.heap[k]? = some x → W.heap[k]? = some x
theorem KeepI.refl (S : Nat) (V : World) : KeepI S V V := ⟨Nat.le_refl _, fun _ _ _ _ h => h⟩
theorem KeepI.below {S : Nat} {V W W' : World} (h : KeepI S V W) (hb : Below W.heap.size W W') : KeepI S V W' := ⟨Nat.le_trans h.1 hb.size, fun k x h1 h2 h3 => (hb.block k (Nat.lt_of_lt_of_le h2 h.1)).trans (h.2 k x h1 h2 h3)⟩
theorem KeepI.grow {S : Nat} {V W W' : World} {a : Option Addr} (h : KeepI S V W) (ho : Out S V.heap.size a) (hot : ∀ k y, (∀ g, a = some ⟨g, 0, none⟩ → g ≠ k) → W.heap[k]? = some y → W'.heap[k]? = some y) (hz : W.heap.size ≤ W'.heap.size) : KeepI S V W' :=
  ⟨Nat.le_trans h.1 hz, fun k x h1 h2 h3 => hot k x (fun g e he => by subst he; have := ho g e; omega) (h.2 k x h1 h2 h3)⟩
theorem KeepI.ot {S b : Nat} {V W W' : World} (h : KeepI S V W) (hot : ∀ k x, k ≠ b → W.heap[k]? = some x → W'.heap[k]? = some x) (hb : V.heap.size ≤ b) (hz : W.heap.size ≤ W'.heap.size) : KeepI S V W' :=
  ⟨Nat.le_trans h.1 hz, fun k x h1 h2 h3 => hot k x (by omega) (h.2 k x h1 h2 h3)⟩
theorem Out.grow {S V X g' : Nat} {a : Option Addr} (h : Out S V a) (gg : a = some ⟨g', 0, none⟩ ∨ g' = X) (hX : V ≤ X) : Out S V (some ⟨g', 0, none⟩) := fun k e => by
  cases e
  rcases gg with gg | gg
  · exact h _ gg
  · omega
theorem OwnI.keepI {B S g c : Nat} {xs : List Int} {V W : World} (h : OwnI B xs g c V) (hk : KeepI S V W) (hB : S ≤ B) : OwnI B xs g c W :=
  OwnR.same (n := xs.length) h hk.1 fun x hx => hk.2 g x (Nat.le_trans hB h.1) h.2.1 hx
def Apart (a b : Option Addr) : Prop := ∀ g k, a = some ⟨g, 0, none⟩ → b = some ⟨k, 0, none⟩ → g ≠ k
theorem OwnN.otherA {T : TypeId} {z B n c : Nat} {cs : List Value} {a a0 : Option Addr} {W W' : World} (h : OwnN T z B n cs a c W) (hne : Apart a0 a) (hot : ∀ k y, (∀ g, a0 = some ⟨g, 0, none⟩ → g ≠ k) → W.heap[k]? = some y → W'.heap[k]? = some y) (hz : W.heap.size ≤ W'.heap.size) : OwnN T z B n cs a c W' := by
  rcases h with h | ⟨g, e, h⟩
  · exact .inl h
  · exact .inr ⟨g, e, h.same hz fun x hx => hot g x (fun k ek => hne k g ek e) hx⟩
theorem Apart.grow {a b : Option Addr} {g' X : Nat} (h : Apart a b) (gg : a = some ⟨g', 0, none⟩ ∨ g' = X) (hb : ∀ k, b = some ⟨k, 0, none⟩ → k < X) : Apart (some ⟨g', 0, none⟩) b := fun g k e1 e2 => by
  cases e1
  rcases gg with gg | gg
  · exact h _ _ gg e2
  · have := hb k e2; omega
theorem Apart.symm {a b : Option Addr} (h : Apart a b) : Apart b a := fun g k e1 e2 e => h k g e2 e1 e.symm
theorem apart_none (a : Option Addr) : Apart none a := fun _ _ e => nomatch e
theorem infoB : (Try.prog.info? 57).map (fun i => (i.zero, i.size, i.bytes)) = some (some (.agg #[.int .i64 0, .slice none 0 0, .int .i64 0, .slice none 0 0, .slice none 0 0, .int .i64 0, .bool false]), 7, 104) := by kernel_rfl
theorem wp_region_seq {P : Program} {ops : Array Oper} {Q : Exit → Act → World → Prop} {id : Nat} {a : Act} {w : World} (h : wpOps P ops Q (List.range' 0 ops.size) a w) : (Code.region id ops false).wp P Q a w := by
  refine wp_region ?_
  rw [List.range_eq_range']; exact h
/-- Three blanks, one behind another. -/
def bxC (tb lg wd hh fp fq sl : Int) (g1 c1 g2 c2 g3 c3 : Nat) : List Value := [.int .i64 tb, .slice (some ⟨g1, 0, none⟩) 4 c1, .int .i64 hh, .slice (some ⟨g2, 0, none⟩) 2 c2, .slice (some ⟨g3, 0, none⟩) 2 c3, .int .i64 sl, .bool false]
def BxsO (tb0 lg0 wd0 hh0 fp0 fq0 sl0 tb1 lg1 wd1 hh1 fp1 fq1 sl1 tb2 lg2 wd2 hh2 fp2 fq2 sl2 : Int) (v : Value) (W : World) : Prop := ∃ (gl cl : Nat) (g c : Nat → Nat), v = .slice (some ⟨gl, 0, none⟩) 3 cl ∧ OwnR 57 7 0 3 (bxC tb0 lg0 wd0 hh0 fp0 fq0 sl0 (g 0) (c 0) (g 1) (c 1) (g 2) (c 2) ++ bxC tb1 lg1 wd1 hh1 fp1 fq1 sl1 (g 3) (c 3) (g 4) (c 4) (g 5) (c 5) ++ bxC tb2 lg2 wd2 hh2 fp2 fq2 sl2 (g 6) (c 6) (g 7) (c 7) (g 8) (c 8)) gl cl W ∧ OwnI 0 [lg0, wd0, lg0, wd0] (g 0) (c 0) W ∧ OwnI 0 [fp0, fp0] (g 1) (c 1) W ∧ OwnI 0 [fp0, fq0] (g 2) (c 2) W ∧ OwnI 0 [lg1, wd1, lg1, wd1] (g 3) (c 3) W ∧ OwnI 0 [fp1, fp1] (g 4) (c 4) W ∧ OwnI 0 [fp1, fq1] (g 5) (c 5) W ∧ OwnI 0 [lg2, wd2, lg2, wd2] (g 6) (c 6) W ∧ OwnI 0 [fp2, fp2] (g 7) (c 7) W ∧ OwnI 0 [fp2, fq2] (g 8) (c 8) W
set_option maxRecDepth 100000 in
set_option maxHeartbeats 40000000 in
theorem pubBoxes_any (sv : Nat → Int) (tb0 lg0 wd0 hh0 fp0 fq0 sl0 tb1 lg1 wd1 hh1 fp1 fq1 sl1 tb2 lg2 wd2 hh2 fp2 fq2 sl2 : Int) (ac0 al0 A0 ac1 al1 A1 ac2 al2 A2 : Int) (bb0 bb1 bb2 : Bl) (w : World) (hbox0 : ∀ W, Calls Try.prog 25 #[.agg #[.int .u8 0, .int .u8 0, .int .u8 0, .int .u8 0, .int .u8 0, .int .u8 0, .int .u8 0, .int .u8 0, .int .u8 0, .int .u8 0, .int .u8 0, .int .u8 0, .int .u8 0, .int .u8 0, .int .u8 0, .int .u8 0, .int .u8 0, .int .u8 0, .int .u8 ((sv 0)), .int .u8 ((sv 1)), .int .u8 ((sv 2)), .int .u8 ((sv 3)), .int .u8 ((sv 4)), .int .u8 ((sv 5)), .int .u8 ((sv 6))], .int .i64 100] W (BoxOP tb0 lg0 wd0 hh0 fp0 fq0 sl0 W)) (hbox1 : ∀ W, Calls Try.prog 25 #[.agg #[.int .u8 0, .int .u8 0, .int .u8 0, .int .u8 0, .int .u8 0, .int .u8 0, .int .u8 0, .int .u8 0, .int .u8 0, .int .u8 0, .int .u8 0, .int .u8 0, .int .u8 0, .int .u8 0, .int .u8 0, .int .u8 0, .int .u8 0, .int .u8 0, .int .u8 ((sv 7)), .int .u8 ((sv 8)), .int .u8 ((sv 9)), .int .u8 ((sv 10)), .int .u8 ((sv 11)), .int .u8 ((sv 12)), .int .u8 ((sv 13))], .int .i64 100] W (BoxOP tb1 lg1 wd1 hh1 fp1 fq1 sl1 W)) (hbox2 : ∀ W, Calls Try.prog 25 #[.agg #[.int .u8 0, .int .u8 0, .int .u8 0, .int .u8 0, .int .u8 0, .int .u8 0, .int .u8 0, .int .u8 0, .int .u8 0, .int .u8 0, .int .u8 0, .int .u8 0, .int .u8 0, .int .u8 0, .int .u8 0, .int .u8 0, .int .u8 0, .int .u8 0, .int .u8 ((sv 14)), .int .u8 ((sv 15)), .int .u8 ((sv 16)), .int .u8 ((sv 17)), .int .u8 ((sv 18)), .int .u8 ((sv 19)), .int .u8 ((sv 20))], .int .i64 100] W (BoxOP tb2 lg2 wd2 hh2 fp2 fq2 sl2 W)) (hbb0 : (⟨tb0, [lg0, wd0, lg0, wd0], hh0, [fp0, fp0], [fp0, fq0], sl0, false⟩ : Bl) = bb0) (hck0 : checkErr bb0 = 0) (hac0 : acrossOf bb0 = ac0) (hal0 : alongOf bb0 = al0) (hA0 : ac0 * al0 = A0) (gac0 : 1 ≤ ac0 ∧ ac0 ≤ 5000) (gal0 : 1 ≤ al0 ∧ al0 ≤ 1000) (hbb1 : (⟨tb1, [lg1, wd1, lg1, wd1], hh1, [fp1, fp1], [fp1, fq1], sl1, false⟩ : Bl) = bb1) (hck1 : checkErr bb1 = 0) (hac1 : acrossOf bb1 = ac1) (hal1 : alongOf bb1 = al1) (hA1 : ac1 * al1 = A1) (gac1 : 1 ≤ ac1 ∧ ac1 ≤ 5000) (gal1 : 1 ≤ al1 ∧ al1 ≤ 1000) (hbb2 : (⟨tb2, [lg2, wd2, lg2, wd2], hh2, [fp2, fp2], [fp2, fq2], sl2, false⟩ : Bl) = bb2) (hck2 : checkErr bb2 = 0) (hac2 : acrossOf bb2 = ac2) (hal2 : alongOf bb2 = al2) (hA2 : ac2 * al2 = A2) (gac2 : 1 ≤ ac2 ∧ ac2 ≤ 5000) (gal2 : 1 ≤ al2 ∧ al2 ≤ 1000) :
  Calls Try.prog 7 #[.agg #[.int .u8 ((sv 0)), .int .u8 ((sv 1)), .int .u8 ((sv 2)), .int .u8 ((sv 3)), .int .u8 ((sv 4)), .int .u8 ((sv 5)), .int .u8 ((sv 6)), .int .u8 ((sv 7)), .int .u8 ((sv 8)), .int .u8 ((sv 9)), .int .u8 ((sv 10)), .int .u8 ((sv 11)), .int .u8 ((sv 12)), .int .u8 ((sv 13)), .int .u8 ((sv 14)), .int .u8 ((sv 15)), .int .u8 ((sv 16)), .int .u8 ((sv 17)), .int .u8 ((sv 18)), .int .u8 ((sv 19)), .int .u8 ((sv 20)), .int .u8 ((sv 21)), .int .u8 ((sv 22)), .int .u8 ((sv 23)), .int .u8 ((sv 24)), .int .u8 ((sv 25)), .int .u8 ((sv 26)), .int .u8 ((sv 27)), .int .u8 ((sv 28)), .int .u8 ((sv 29)), .int .u8 ((sv 30))]] w (fun e w' => ∃ v1 v2 v3, e = .returned (.tuple #[v1, v2, v3, .bool true]) ∧ BxsO tb0 lg0 wd0 hh0 fp0 fq0 sl0 tb1 lg1 wd1 hh1 fp1 fq1 sl1 tb2 lg2 wd2 hh2 fp2 fq2 sl2 v1 w' ∧ OwI 0 [ac0, ac1, ac2] 3 v2 w' ∧ OwI 0 [al0, al1, al2] 3 v3 w' ∧ Below w.heap.size w w') := by
 have hd0_0 : (decide (ac0 < 1)) = false := decide_eq_false (by omega)
 have hd0_1 : (decide (5000 < ac0)) = false := decide_eq_false (by omega)
 have hd0_2 : (decide (al0 < 1)) = false := decide_eq_false (by omega)
 have hd0_3 : (decide (1000 < al0)) = false := decide_eq_false (by omega)
 have hd1_0 : (decide (ac1 < 1)) = false := decide_eq_false (by omega)
 have hd1_1 : (decide (5000 < ac1)) = false := decide_eq_false (by omega)
 have hd1_2 : (decide (al1 < 1)) = false := decide_eq_false (by omega)
 have hd1_3 : (decide (1000 < al1)) = false := decide_eq_false (by omega)
 have hd2_0 : (decide (ac2 < 1)) = false := decide_eq_false (by omega)
 have hd2_1 : (decide (5000 < ac2)) = false := decide_eq_false (by omega)
 have hd2_2 : (decide (al2 < 1)) = false := decide_eq_false (by omega)
 have hd2_3 : (decide (1000 < al2)) = false := decide_eq_false (by omega)
 refine calls_fr Try.func7 Try.ntmps7 rfl rfl fun g hg => ?_
 have k0 : g 0 = .agg #[.int .u8 ((sv 0)), .int .u8 ((sv 1)), .int .u8 ((sv 2)), .int .u8 ((sv 3)), .int .u8 ((sv 4)), .int .u8 ((sv 5)), .int .u8 ((sv 6)), .int .u8 ((sv 7)), .int .u8 ((sv 8)), .int .u8 ((sv 9)), .int .u8 ((sv 10)), .int .u8 ((sv 11)), .int .u8 ((sv 12)), .int .u8 ((sv 13)), .int .u8 ((sv 14)), .int .u8 ((sv 15)), .int .u8 ((sv 16)), .int .u8 ((sv 17)), .int .u8 ((sv 18)), .int .u8 ((sv 19)), .int .u8 ((sv 20)), .int .u8 ((sv 21)), .int .u8 ((sv 22)), .int .u8 ((sv 23)), .int .u8 ((sv 24)), .int .u8 ((sv 25)), .int .u8 ((sv 26)), .int .u8 ((sv 27)), .int .u8 ((sv 28)), .int .u8 ((sv 29)), .int .u8 ((sv 30))] := hg 0
 clear hg
 have fB0 : Below w.heap.size w w := Below.refl _ _
 refine wp_seq_k fun K1 hK1 => ?_
 refine region_dk 5 [(1, 0), (2, 1), (3, 2), (4, 3), (5, 4)] [[], [], [1], [1, 2], [1, 2, 3]] (rel [bx 0 #[.int .u8 ((sv 0)), .int .u8 ((sv 1)), .int .u8 ((sv 2)), .int .u8 ((sv 3)), .int .u8 ((sv 4)), .int .u8 ((sv 5)), .int .u8 ((sv 6)), .int .u8 ((sv 7)), .int .u8 ((sv 8)), .int .u8 ((sv 9)), .int .u8 ((sv 10)), .int .u8 ((sv 11)), .int .u8 ((sv 12)), .int .u8 ((sv 13)), .int .u8 ((sv 14)), .int .u8 ((sv 15)), .int .u8 ((sv 16)), .int .u8 ((sv 17)), .int .u8 ((sv 18)), .int .u8 ((sv 19)), .int .u8 ((sv 20)), .int .u8 ((sv 21)), .int .u8 ((sv 22)), .int .u8 ((sv 23)), .int .u8 ((sv 24)), .int .u8 ((sv 25)), .int .u8 ((sv 26)), .int .u8 ((sv 27)), .int .u8 ((sv 28)), .int .u8 ((sv 29)), .int .u8 ((sv 30))] 27,
   is (.slice (none) (0) (0)),
   is (.slice (none) (0) (0)),
   is (.slice (none) (0) (0)),
   is (.bool false)])
  ⟨bx_k, is_k, is_k, is_k, is_k, trivial⟩
  ⟨fun f s W i j l m n a => opb rfl rfl (by simp [go_sem, a.e 0 k0]),
  fun f s W i j l m n a => opv rfl rfl (by simp [go_sem]) rfl,
  fun f s W i j l m n a => opv rfl rfl (by simp [go_sem]) rfl,
  fun f s W i j l m n a => opv rfl rfl (by simp [go_sem]) rfl,
  fun f s W i j l m n a => opv rfl rfl (by simp [go_sem]) rfl, trivial⟩ ?_
 intro f1 s1 W1 hB1 g1 hg1
 have fB1 := hB1.f fB0
 have z1 := hB1.below.size
 obtain ⟨r1_0, br1_0⟩ := hB1.is 0
 have lr1_0 := hB1.lr 0 br1_0
 refine hK1 _ _ ?_
 have k1_1 := kt hg1 1 r1_0
 have k1_2 := kt hg1 2 (hB1.is 1)
 have k1_3 := kt hg1 3 (hB1.is 2)
 have k1_4 := kt hg1 4 (hB1.is 3)
 have k1_5 := kt hg1 5 (hB1.is 4)
 refine wp_seq_k fun K2 hK2 => ?_
 refine wp_seq_k fun K3 hK3 => ?_
 refine region_dk 1 [(6, 0)] [[]] (rel [is (.int .i64 0)])
  ⟨is_k, trivial⟩
  ⟨fun f s W i j l m n a => opv rfl rfl (by simp [go_sem]) rfl, trivial⟩ ?_
 intro f2 s2 W2 hB2 g2 hg2
 have fB2 := hB2.f fB1
 have z2 := hB2.below.size
 have b2_0 := hB2.b br1_0
 refine hK3 _ _ ?_
 have k2_1 := kt hg2 1 k1_1
 have k2_2 := kt hg2 2 k1_2
 have k2_3 := kt hg2 3 k1_3
 have k2_4 := kt hg2 4 k1_4
 have k2_5 := kt hg2 5 k1_5
 have k2_6 := kt hg2 6 (hB2.is 0)
 have on0 : OwnN 57 7 w.heap.size 0 [] none 0 W2 := ownN_nil
 have ox0 : OwnN 3 1 w.heap.size 0 (iis []) none 0 W2 := ownN_nil
 have ap0 : Apart none none := apart_none _
 refine wp_block ?_
 refine wp_loop_rounds 4 ?_
 rw [rounds_succ]
 refine wp_seq_k fun K4 hK4 => ?_
 refine wp_seq_k fun K5 hK5 => ?_
 refine region_dk 2 [(12, 0), (13, 1)] [[], [0]] (rel [is (.int .i64 0),
   is (.bool true)])
  ⟨is_k, is_k, trivial⟩
  ⟨fun f s W i j l m n a => opv rfl rfl (by simp [go_sem, a.e 6 k2_6]) rfl,
  fun f s W i j l m n a => opv rfl rfl (by simp [go_sem, a.e 12 (j 0 rfl)]) rfl, trivial⟩ ?_
 intro f3 s3 W3 hB3 g3 hg3
 have fB3 := hB3.f fB2
 have z3 := hB3.below.size
 have b3_0 := hB3.b b2_0
 have q1' := (on0.below hB3.below)
 have q2' := (ox0.below hB3.below)
 have q3' := (ox0.below hB3.below)
 refine hK5 _ _ ?_
 have k3_1 := kt hg3 1 k2_1
 have k3_2 := kt hg3 2 k2_2
 have k3_3 := kt hg3 3 k2_3
 have k3_4 := kt hg3 4 k2_4
 have k3_5 := kt hg3 5 k2_5
 have k3_6 := kt hg3 6 k2_6
 have k3_13 := kt hg3 13 (hB3.is 1)
 refine wp_cond_true ((fr_eval rfl).trans k3_13) ?_
 refine wp_skip ?_
 refine hK4 _ _ ?_
 refine wp_seq_k fun K7 hK7 => ?_
 refine wp_block ?_
 refine wp_seq_k fun K8 hK8 => ?_
 have limR_l := OwnN.lim q1'
 have limR_x := OwnN.lim q2'
 have limR_y := OwnN.lim q3'
 have limQ_l := OwnN.lim q1'
 have limQ_x := OwnN.lim q2'
 have limQ_y := OwnN.lim q3'
 refine region_dk 7 [(16, 0), (17, 1), (18, 2), (19, 3), (20, 4), (21, 5), (7, 6)] [[], [], [0, 1], [0, 1, 2], [0, 1, 2, 3], [0, 1, 2, 3, 4], [], [0, 1, 2, 3, 4, 5, 6]] (rel [is (.int .i64 0),
   is (.pointer (some ⟨(s1 0), 0, none⟩)),
   is (.pointer (some ⟨(s1 0), 0, none⟩)),
   is (.agg #[.int .u8 ((sv 0)), .int .u8 ((sv 1)), .int .u8 ((sv 2)), .int .u8 ((sv 3)), .int .u8 ((sv 4)), .int .u8 ((sv 5)), .int .u8 ((sv 6))]),
   is (.agg #[.int .u8 0, .int .u8 0, .int .u8 0, .int .u8 0, .int .u8 0, .int .u8 0, .int .u8 0, .int .u8 0, .int .u8 0, .int .u8 0, .int .u8 0, .int .u8 0, .int .u8 0, .int .u8 0, .int .u8 0, .int .u8 0, .int .u8 0, .int .u8 0, .int .u8 ((sv 0)), .int .u8 ((sv 1)), .int .u8 ((sv 2)), .int .u8 ((sv 3)), .int .u8 ((sv 4)), .int .u8 ((sv 5)), .int .u8 ((sv 6))]),
   ab fun v W => BoxO W3.heap.size tb0 lg0 wd0 hh0 fp0 fq0 sl0 v W,
   bx 6 #[.int .i64 0, .slice (none) (0) (0), .int .i64 0, .slice (none) (0) (0), .slice (none) (0) (0), .int .i64 0, .bool false] 57])
  ⟨is_k, is_k, is_k, is_k, is_k, ab_k fun v W W' hb h => h.below hb, bx_k, trivial⟩
  ⟨fun f s W i j l m n a => opv rfl rfl (by simp [go_sem, a.e 6 k3_6]) rfl,
  fun f s W i j l m n a => opv rfl rfl (by simp [go_sem, a.e 1 k3_1]) rfl,
  fun f s W i j l m n a => opv rfl rfl (by simp [go_sem, a.e 17 (j 1 rfl), a.e 16 (j 0 rfl)]) rfl,
  fun f s W i j l m n a => opv rfl rfl (by simp [go_sem, a.e 18 (j 2 rfl), cb b3_0 i 0, cb b3_0 i 1, cb b3_0 i 2, cb b3_0 i 3, cb b3_0 i 4, cb b3_0 i 5, cb b3_0 i 6]) rfl,
  fun f s W i j l m n a => opv rfl rfl (by simp [go_sem, a.e 19 (j 3 rfl)]) rfl,
  fun f s W i j l m n a => opDo_call rfl rfl (by simp [go_sem, a.e 20 (j 4 rfl)]) (hbox0 W) ((fun e W' h => by obtain ⟨v, e1, h1, h2⟩ := h; exact ⟨_, e1, h2, h1.low i.size⟩)),
  fun f s W i j l m n a => opb rfl rfl (by simp [go_sem]), trivial⟩ ?_
 intro f4 s4 W4 hB4 g4 hg4
 have fB4 := hB4.f fB3
 have z4 := hB4.below.size
 have b4_0 := hB4.b b3_0
 have q4' := (q1'.below hB4.below)
 have q5' := (q2'.below hB4.below)
 have q6' := (q3'.below hB4.below)
 obtain ⟨g7', c10', g8', c11', g9', c12', r4_5, q13', q14', q15'⟩ := hB4.is 5
 obtain ⟨r4_6, br4_6⟩ := hB4.is 6
 have lr4_6 := hB4.lr 6 br4_6
 have k4_1 := kt hg4 1 k3_1
 have k4_2 := kt hg4 2 k3_2
 have k4_3 := kt hg4 3 k3_3
 have k4_4 := kt hg4 4 k3_4
 have k4_5 := kt hg4 5 k3_5
 have k4_6 := kt hg4 6 k3_6
 have k4_13 := kt hg4 13 k3_13
 have k4_21 := kt hg4 21 r4_5
 have k4_7 := kt hg4 7 r4_6
 obtain ⟨W5, hW5⟩ : ∃ W', W' = W4.setRow (s4 6) #[.int .i64 tb0, .slice (some ⟨g7', 0, none⟩) (4) (c10'), .int .i64 hh0, .slice (some ⟨g8', 0, none⟩) (2) (c11'), .slice (some ⟨g9', 0, none⟩) (2) (c12'), .int .i64 sl0, .bool false] := ⟨_, rfl⟩
 refine tail_skip (o := _) rfl ⟨rfl, rfl⟩ (run_seg hW5 (fr_ev k4_7) (fr_ev k4_21) br4_6 rfl rfl rfl rfl) ?_
 obtain ⟨fB5, nb5, ot5, z5⟩ := seg_facts hW5 fB4 br4_6 (by omega)
 clear hW5
 have b5_0 := ot5 _ _ (by omega) b4_0
 have q16' := q4'.other ot5 (fun g e => by have := limR_l g e; omega) z5
 have q17' := q5'.other ot5 (fun g e => by have := limR_x g e; omega) z5
 have q18' := q6'.other ot5 (fun g e => by have := limR_y g e; omega) z5
 have q19' := q13'.other ot5 (own_ne q13' br4_6) z5
 have q20' := q14'.other ot5 (own_ne q14' br4_6) z5
 have q21' := q15'.other ot5 (own_ne q15' br4_6) z5
 refine wpOps_end ?_
 refine hK8 _ _ ?_
 have ki0 : KeepI W3.heap.size W5 W5 := KeepI.refl _ _
 have ou0_l' : Out W3.heap.size W5.heap.size none := fun k e => .inl (limR_l k e).2
 have ou0_x' : Out W3.heap.size W5.heap.size none := fun k e => .inl (limR_x k e).2
 have ou0_y' : Out W3.heap.size W5.heap.size none := fun k e => .inl (limR_y k e).2
 refine wp_seq_k fun K9 hK9 => ?_
 refine region_dk 12 [(23, 0), (24, 1), (25, 2), (22, 3), (26, 4), (27, 5), (28, 6), (29, 7), (8, 8), (9, 9), (10, 10), (11, 11)] [[], [0], [0, 1], [0, 1, 2], [0, 1, 2, 3], [0, 1, 2, 3], [0, 1, 2, 3], [0, 1, 2, 3], [0, 1, 2, 3, 4], [0, 1, 2, 3, 4, 5, 8], [0, 1, 2, 3, 4, 5, 6, 8, 9], [0, 1, 2, 3, 4, 5, 6, 7, 8, 9, 10]] (rel [is (.agg #[.int .i64 tb0, .slice (some ⟨g7', 0, none⟩) (4) (c10'), .int .i64 hh0, .slice (some ⟨g8', 0, none⟩) (2) (c11'), .slice (some ⟨g9', 0, none⟩) (2) (c12'), .int .i64 sl0, .bool false]),
   ab fun v W => NwBlk 0 (bb0) v W,
   is (.tuple #[.int .i64 ac0, .int .i64 al0, .int .i64 A0, .int .i64 0]),
   is (.tuple #[.int .i64 ac0, .int .i64 al0, .int .i64 A0, .int .i64 0]),
   is (.int .i64 ac0),
   is (.int .i64 al0),
   is (.int .i64 A0),
   is (.int .i64 0),
   is (.int .i64 ac0),
   is (.int .i64 al0),
   is (.int .i64 A0),
   is (.int .i64 0)])
  ⟨is_k, ab_k fun v W W' hb h => h.below hb, is_k, is_k, is_k, is_k, is_k, is_k, is_k, is_k, is_k, is_k, trivial⟩
  ⟨fun f s W i j l m n a => opl rfl rfl rfl (a.v 7 k4_7) (blk_below nb5 i) Try.underlying57 rfl (by kernel_rfl) rfl,
  fun f s W i j l m n a => opDo_call (args := #[.agg #[.int .i64 tb0, .slice (some ⟨g7', 0, none⟩) (4) (c10'), .int .i64 hh0, .slice (some ⟨g8', 0, none⟩) (2) (c11'), .slice (some ⟨g9', 0, none⟩) (2) (c12'), .int .i64 sl0, .bool false]]) rfl rfl (by simp [go_sem, a.e 23 (j 0 rfl)]) (pubBlank_any _ _ _ _ _ _ (⟨tb0, [lg0, wd0, lg0, wd0], hh0, [fp0, fp0], [fp0, fq0], sl0, false⟩ : Bl) W ((q19'.below i)).ii ((q20'.below i)).ii ((q21'.below i)).ii (show 4 ≤ 1000 by decide) (show 2 ≤ 1000 by decide) (show 2 ≤ 1000 by decide)) ((fun e W' h => by obtain ⟨v, e1, h1, h2⟩ := h; rw [hbb0] at h1; exact ⟨_, e1, h2, h1.low (Nat.zero_le _)⟩)),
  fun f s W i j l m n a => by obtain ⟨g22', c25', g23', c26', g24', c27', d1, ⟨q28', q30', q29'⟩, ⟨q31', q33', q32'⟩, ⟨q34', q36', q35'⟩⟩ := (j 1 rfl); exact opDo_call (args := #[.agg #[.int .i64 bb0.tab, .slice (some ⟨g22', 0, none⟩) (bb0.panels.length) (c25'), .int .i64 bb0.height, .slice (some ⟨g23', 0, none⟩) (bb0.top.length) (c26'), .slice (some ⟨g24', 0, none⟩) (bb0.bottom.length) (c27'), .int .i64 bb0.slot, .bool bb0.isOpen]]) rfl rfl (by simp [go_sem, a.e 24 d1]) (size_any _ bb0 W ⟨_, _, _, _, _, _, _, _, _, rfl, q28', q31', q34'⟩) ((fun e W' h => by have h1 := h.1; rw [if_pos hck0, hac0, hal0, hA0] at h1; exact ⟨_, h1, h.2, rfl⟩)),
  fun f s W i j l m n a => opv rfl rfl (by simp [go_sem, a.e 25 (j 2 rfl)]) rfl,
  fun f s W i j l m n a => opv rfl rfl (by simp [go_sem, a.e 22 (j 3 rfl)]) rfl,
  fun f s W i j l m n a => opv rfl rfl (by simp [go_sem, a.e 22 (j 3 rfl)]) rfl,
  fun f s W i j l m n a => opv rfl rfl (by simp [go_sem, a.e 22 (j 3 rfl)]) rfl,
  fun f s W i j l m n a => opv rfl rfl (by simp [go_sem, a.e 22 (j 3 rfl)]) rfl,
  fun f s W i j l m n a => opv rfl rfl (by simp [go_sem, a.e 26 (j 4 rfl)]) rfl,
  fun f s W i j l m n a => opv rfl rfl (by simp [go_sem, a.e 27 (j 5 rfl)]) rfl,
  fun f s W i j l m n a => opv rfl rfl (by simp [go_sem, a.e 28 (j 6 rfl)]) rfl,
  fun f s W i j l m n a => opv rfl rfl (by simp [go_sem, a.e 29 (j 7 rfl)]) rfl, trivial⟩ ?_
 intro f6 s6 W6 hB6 g6 hg6
 have fB6 := hB6.f fB5
 have z6 := hB6.below.size
 have b6_0 := hB6.b b5_0
 have b6_1 := hB6.b nb5
 have q37' := (q16'.below hB6.below)
 have q38' := (q17'.below hB6.below)
 have q39' := (q18'.below hB6.below)
 have q40' := (q19'.below hB6.below)
 have q41' := (q20'.below hB6.below)
 have q42' := (q21'.below hB6.below)
 have q43' := (ki0.below hB6.below)
 refine hK9 _ _ ?_
 have k6_1 := kt hg6 1 k4_1
 have k6_2 := kt hg6 2 k4_2
 have k6_3 := kt hg6 3 k4_3
 have k6_4 := kt hg6 4 k4_4
 have k6_5 := kt hg6 5 k4_5
 have k6_6 := kt hg6 6 k4_6
 have k6_13 := kt hg6 13 k4_13
 have k6_21 := kt hg6 21 k4_21
 have k6_7 := kt hg6 7 k4_7
 have k6_8 := kt hg6 8 (hB6.is 8)
 have k6_9 := kt hg6 9 (hB6.is 9)
 have k6_11 := kt hg6 11 (hB6.is 11)
 refine wp_seq_k fun K10 hK10 => ?_
 refine wp_seq_k fun K11 hK11 => ?_
 refine region_dk 18 [(30, 0), (31, 1), (32, 2), (33, 3), (34, 4), (35, 5), (36, 6), (37, 7), (38, 8), (39, 9), (40, 10), (41, 11), (42, 12), (43, 13), (44, 14), (45, 15), (46, 16), (47, 17)] [[], [0], [0, 1], [0, 1, 2], [0, 1, 2, 3], [0, 1, 2, 3, 4], [0, 1, 2, 3, 4, 5], [0, 1, 2, 3, 4, 5, 6], [0, 1, 2, 3, 4, 5, 6, 7], [0, 1, 2, 3, 4, 5, 6, 7, 8], [0, 1, 2, 3, 4, 5, 6, 7, 8, 9], [0, 1, 2, 3, 4, 5, 6, 7, 8, 9, 10], [0, 1, 2, 3, 4, 5, 6, 7, 8, 9, 10, 11], [0, 1, 2, 3, 4, 5, 6, 7, 8, 9, 10, 11, 12], [0, 1, 2, 3, 4, 5, 6, 7, 8, 9, 10, 11, 12, 13], [0, 1, 2, 3, 4, 5, 6, 7, 8, 9, 10, 11, 12, 13, 14], [0, 1, 2, 3, 4, 5, 6, 7, 8, 9, 10, 11, 12, 13, 14, 15], [0, 1, 2, 3, 4, 5, 6, 7, 8, 9, 10, 11, 12, 13, 14, 15, 16]] (rel [is (.int .i64 0),
   is (.bool false),
   is (.bool false),
   is (.int .i64 ac0),
   is (.bool false),
   is (.bool false),
   is (.bool false),
   is (.int .i64 ac0),
   is (.bool false),
   is (.bool false),
   is (.bool false),
   is (.int .i64 al0),
   is (.bool false),
   is (.bool false),
   is (.bool false),
   is (.int .i64 al0),
   is (.bool false),
   is (.bool false)])
  ⟨is_k, is_k, is_k, is_k, is_k, is_k, is_k, is_k, is_k, is_k, is_k, is_k, is_k, is_k, is_k, is_k, is_k, is_k, trivial⟩
  ⟨fun f s W i j l m n a => opv rfl rfl (by simp [go_sem, a.e 11 k6_11]) rfl,
  fun f s W i j l m n a => opv rfl rfl (by simp [go_sem, a.e 30 (j 0 rfl)]) rfl,
  fun f s W i j l m n a => opv rfl rfl (by simp [go_sem, a.e 31 (j 1 rfl)]) rfl,
  fun f s W i j l m n a => osure rfl rfl (a.says (d := 32) rfl rfl (j 2 rfl)) (gv (by simp [go_sem, a.e 8 k6_8]) rfl),
  fun f s W i j l m n a => osure rfl rfl (a.says (d := 32) rfl rfl (j 2 rfl)) (gv (by simp [go_sem, a.e 33 (j 3 rfl), hd0_0]) rfl),
  fun f s W i j l m n a => opk (c := false) rfl rfl (fun _ => by simp [go_sem, a.e 32 (j 2 rfl), a.e 34 (j 4 rfl)]) (fun h => absurd h (by decide)),
  fun f s W i j l m n a => opv rfl rfl (by simp [go_sem, a.e 35 (j 5 rfl)]) rfl,
  fun f s W i j l m n a => osure rfl rfl (a.says (d := 36) rfl rfl (j 6 rfl)) (gv (by simp [go_sem, a.e 8 k6_8]) rfl),
  fun f s W i j l m n a => osure rfl rfl (a.says (d := 36) rfl rfl (j 6 rfl)) (gv (by simp [go_sem, a.e 37 (j 7 rfl), hd0_1]) rfl),
  fun f s W i j l m n a => opk (c := false) rfl rfl (fun _ => by simp [go_sem, a.e 36 (j 6 rfl), a.e 38 (j 8 rfl)]) (fun h => absurd h (by decide)),
  fun f s W i j l m n a => opv rfl rfl (by simp [go_sem, a.e 39 (j 9 rfl)]) rfl,
  fun f s W i j l m n a => osure rfl rfl (a.says (d := 40) rfl rfl (j 10 rfl)) (gv (by simp [go_sem, a.e 9 k6_9]) rfl),
  fun f s W i j l m n a => osure rfl rfl (a.says (d := 40) rfl rfl (j 10 rfl)) (gv (by simp [go_sem, a.e 41 (j 11 rfl), hd0_2]) rfl),
  fun f s W i j l m n a => opk (c := false) rfl rfl (fun _ => by simp [go_sem, a.e 40 (j 10 rfl), a.e 42 (j 12 rfl)]) (fun h => absurd h (by decide)),
  fun f s W i j l m n a => opv rfl rfl (by simp [go_sem, a.e 43 (j 13 rfl)]) rfl,
  fun f s W i j l m n a => osure rfl rfl (a.says (d := 44) rfl rfl (j 14 rfl)) (gv (by simp [go_sem, a.e 9 k6_9]) rfl),
  fun f s W i j l m n a => osure rfl rfl (a.says (d := 44) rfl rfl (j 14 rfl)) (gv (by simp [go_sem, a.e 45 (j 15 rfl), hd0_3]) rfl),
  fun f s W i j l m n a => opk (c := false) rfl rfl (fun _ => by simp [go_sem, a.e 44 (j 14 rfl), a.e 46 (j 16 rfl)]) (fun h => absurd h (by decide)), trivial⟩ ?_
 intro f7 s7 W7 hB7 g7 hg7
 have fB7 := hB7.f fB6
 have z7 := hB7.below.size
 have b7_0 := hB7.b b6_0
 have b7_1 := hB7.b b6_1
 have q44' := (q37'.below hB7.below)
 have q45' := (q38'.below hB7.below)
 have q46' := (q39'.below hB7.below)
 have q47' := (q40'.below hB7.below)
 have q48' := (q41'.below hB7.below)
 have q49' := (q42'.below hB7.below)
 have q50' := (q43'.below hB7.below)
 refine hK11 _ _ ?_
 have k7_1 := kt hg7 1 k6_1
 have k7_2 := kt hg7 2 k6_2
 have k7_3 := kt hg7 3 k6_3
 have k7_4 := kt hg7 4 k6_4
 have k7_5 := kt hg7 5 k6_5
 have k7_6 := kt hg7 6 k6_6
 have k7_13 := kt hg7 13 k6_13
 have k7_21 := kt hg7 21 k6_21
 have k7_7 := kt hg7 7 k6_7
 have k7_8 := kt hg7 8 k6_8
 have k7_9 := kt hg7 9 k6_9
 have k7_11 := kt hg7 11 k6_11
 have k7_47 := kt hg7 47 (hB7.is 17)
 refine wp_cond_false ((fr_eval rfl).trans k7_47) ?_
 refine wp_skip ?_
 refine hK10 _ _ ?_
 have limR_l := OwnN.lim q44'
 have limR_x := OwnN.lim q45'
 have limR_y := OwnN.lim q46'
 have kz_0 := q50'.1
 refine wp_region_seq ?_
 show wpOps _ _ _ (List.range' 0 15) _ _
 refine tail_value (o := _) rfl rfl rfl (v := .slice (none) (0) (0)) (by simp [go_sem, frv 63 k7_2]) ?_
 generalize hg8 : upd g7 48 (.slice (none) (0) (0)) = g8
 have k8_1 := ku hg8 1 k7_1
 have k8_2 := ku hg8 2 k7_2
 have k8_3 := ku hg8 3 k7_3
 have k8_4 := ku hg8 4 k7_4
 have k8_5 := ku hg8 5 k7_5
 have k8_6 := ku hg8 6 k7_6
 have k8_13 := ku hg8 13 k7_13
 have k8_21 := ku hg8 21 k7_21
 have k8_7 := ku hg8 7 k7_7
 have k8_8 := ku hg8 8 k7_8
 have k8_9 := ku hg8 9 k7_9
 have k8_11 := ku hg8 11 k7_11
 have k8_47 := ku hg8 47 k7_47
 have k8_48 := kt hg8 48 (upd_same _ _ _)
 refine tail_value (o := _) rfl rfl rfl (v := .agg #[.int .i64 tb0, .slice (some ⟨g7', 0, none⟩) (4) (c10'), .int .i64 hh0, .slice (some ⟨g8', 0, none⟩) (2) (c11'), .slice (some ⟨g9', 0, none⟩) (2) (c12'), .int .i64 sl0, .bool false]) (by simp [go_sem, frv 63 k8_7, cl b7_1 0, cl b7_1 1, cl b7_1 2, cl b7_1 3, cl b7_1 4, cl b7_1 5, cl b7_1 6]) ?_
 generalize hg9 : upd g8 49 (.agg #[.int .i64 tb0, .slice (some ⟨g7', 0, none⟩) (4) (c10'), .int .i64 hh0, .slice (some ⟨g8', 0, none⟩) (2) (c11'), .slice (some ⟨g9', 0, none⟩) (2) (c12'), .int .i64 sl0, .bool false]) = g9
 have k9_1 := ku hg9 1 k8_1
 have k9_2 := ku hg9 2 k8_2
 have k9_3 := ku hg9 3 k8_3
 have k9_4 := ku hg9 4 k8_4
 have k9_5 := ku hg9 5 k8_5
 have k9_6 := ku hg9 6 k8_6
 have k9_13 := ku hg9 13 k8_13
 have k9_21 := ku hg9 21 k8_21
 have k9_7 := ku hg9 7 k8_7
 have k9_8 := ku hg9 8 k8_8
 have k9_9 := ku hg9 9 k8_9
 have k9_11 := ku hg9 11 k8_11
 have k9_47 := ku hg9 47 k8_47
 have k9_48 := ku hg9 48 k8_48
 have k9_49 := kt hg9 49 (upd_same _ _ _)
 refine tail_value2 (o := _) rfl rfl rfl (v := .slice (some ⟨W7.heap.size, 0, none⟩) 1 1) (W' := W7.alloc (.cells #[.int .i64 tb0, .slice (some ⟨g7', 0, none⟩) (4) (c10'), .int .i64 hh0, .slice (some ⟨g8', 0, none⟩) (2) (c11'), .slice (some ⟨g9', 0, none⟩) (2) (c12'), .int .i64 sl0, .bool false] 57 (0, 0))) (by simp [go_sem, frv 63 k9_49]) ?_
 obtain ⟨W10, hw10⟩ : ∃ Y, W7.alloc (.cells #[.int .i64 tb0, .slice (some ⟨g7', 0, none⟩) (4) (c10'), .int .i64 hh0, .slice (some ⟨g8', 0, none⟩) (2) (c11'), .slice (some ⟨g9', 0, none⟩) (2) (c12'), .int .i64 sl0, .bool false] 57 (0, 0)) = Y := ⟨_, rfl⟩
 rw [hw10]
 have hb10 : Below W7.heap.size W7 W10 := hw10 ▸ balloc1 _ _
 have bn10 : W10.heap[W7.heap.size]? = some (.cells #[.int .i64 tb0, .slice (some ⟨g7', 0, none⟩) (4) (c10'), .int .i64 hh0, .slice (some ⟨g8', 0, none⟩) (2) (c11'), .slice (some ⟨g9', 0, none⟩) (2) (c12'), .int .i64 sl0, .bool false] 57 (0, 0)) := hw10 ▸ blk_new rfl
 obtain ⟨nb10, hnb10⟩ : ∃ b, W7.heap.size = b := ⟨_, rfl⟩
 rw [hnb10] at bn10
 rw [hnb10]
 have fB10 := below_trans fB7 hb10
 have z10 := hb10.size
 have b10_0 := blk_below b7_0 hb10
 have b10_1 := blk_below b7_1 hb10
 have q51' := (q44'.below hb10)
 have q52' := (q45'.below hb10)
 have q53' := (q46'.below hb10)
 have q54' := (q47'.below hb10)
 have q55' := (q48'.below hb10)
 have q56' := (q49'.below hb10)
 have q57' := (q50'.below hb10)
 generalize hg10 : upd g9 50 (.slice (some ⟨nb10, 0, none⟩) (1) (1)) = g10
 have k10_1 := ku hg10 1 k9_1
 have k10_2 := ku hg10 2 k9_2
 have k10_3 := ku hg10 3 k9_3
 have k10_4 := ku hg10 4 k9_4
 have k10_5 := ku hg10 5 k9_5
 have k10_6 := ku hg10 6 k9_6
 have k10_13 := ku hg10 13 k9_13
 have k10_21 := ku hg10 21 k9_21
 have k10_7 := ku hg10 7 k9_7
 have k10_8 := ku hg10 8 k9_8
 have k10_9 := ku hg10 9 k9_9
 have k10_11 := ku hg10 11 k9_11
 have k10_47 := ku hg10 47 k9_47
 have k10_48 := ku hg10 48 k9_48
 have k10_49 := ku hg10 49 k9_49
 have k10_50 := kt hg10 50 (upd_same _ _ _)
 obtain ⟨ga11, ca11, W11, ra11, ow11, ot11, z11, gg11, fB11⟩ := growN_tail 28 28 57 7 104 _ (by kernel_rfl) infoB rfl ([] ++ [.int .i64 tb0, .slice (some ⟨g7', 0, none⟩) (4) (c10'), .int .i64 hh0, .slice (some ⟨g8', 0, none⟩) (2) (c11'), .slice (some ⟨g9', 0, none⟩) (2) (c12'), .int .i64 sl0, .bool false]) 1 (off := 0) (k := 1) (c' := 1) [.int .i64 tb0, .slice (some ⟨g7', 0, none⟩) (4) (c10'), .int .i64 hh0, .slice (some ⟨g8', 0, none⟩) (2) (c11'), .slice (some ⟨g9', 0, none⟩) (2) (c12'), .int .i64 sl0, .bool false] fB10 q51' rfl rfl rfl rfl (cells_at bn10) (by omega)
 refine tail_value2 (o := _) rfl rfl rfl (run_appendOp (fr_ev k10_48) (fr_ev k10_50) ra11) ?_
 have lh11 := OwnN.lim q51'
 have b11_0 := ot11 _ _ (ownN_ne q51' b10_0) b10_0
 have b11_1 := ot11 _ _ (fun g e => by have := limQ_l g e; omega) b10_1
 have on11 : OwnN 57 7 w.heap.size 1 ([] ++ [.int .i64 tb0, .slice (some ⟨g7', 0, none⟩) (4) (c10'), .int .i64 hh0, .slice (some ⟨g8', 0, none⟩) (2) (c11'), .slice (some ⟨g9', 0, none⟩) (2) (c12'), .int .i64 sl0, .bool false]) (some ⟨ga11, 0, none⟩) ca11 W11 := .inr ⟨_, rfl, ow11⟩
 have q58' := OwnN.otherN q52' q51' ot11 z11
 have q59' := OwnN.otherN q53' q51' ot11 z11
 have q60' := KeepI.grow q57' ou0_l' ot11 z11
 have ov11_0 := Out.grow ou0_l' gg11 (by omega)
 have kz_0 := q60'.1
 have limR_l := OwnN.lim on11
 generalize hg11 : upd g10 51 (.slice (some ⟨ga11, 0, none⟩) (1) (ca11)) = g11
 have k11_1 := ku hg11 1 k10_1
 have k11_2 := ku hg11 2 k10_2
 have k11_3 := ku hg11 3 k10_3
 have k11_4 := ku hg11 4 k10_4
 have k11_5 := ku hg11 5 k10_5
 have k11_6 := ku hg11 6 k10_6
 have k11_13 := ku hg11 13 k10_13
 have k11_21 := ku hg11 21 k10_21
 have k11_7 := ku hg11 7 k10_7
 have k11_8 := ku hg11 8 k10_8
 have k11_9 := ku hg11 9 k10_9
 have k11_11 := ku hg11 11 k10_11
 have k11_47 := ku hg11 47 k10_47
 have k11_48 := ku hg11 48 k10_48
 have k11_49 := ku hg11 49 k10_49
 have k11_50 := ku hg11 50 k10_50
 have k11_51 := kt hg11 51 (upd_same _ _ _)
 refine tail_value (o := _) rfl rfl rfl (v := .slice (none) (0) (0)) (by simp [go_sem, frv 63 k11_3]) ?_
 generalize hg12 : upd g11 52 (.slice (none) (0) (0)) = g12
 have k12_1 := ku hg12 1 k11_1
 have k12_2 := ku hg12 2 k11_2
 have k12_3 := ku hg12 3 k11_3
 have k12_4 := ku hg12 4 k11_4
 have k12_5 := ku hg12 5 k11_5
 have k12_6 := ku hg12 6 k11_6
 have k12_13 := ku hg12 13 k11_13
 have k12_21 := ku hg12 21 k11_21
 have k12_7 := ku hg12 7 k11_7
 have k12_8 := ku hg12 8 k11_8
 have k12_9 := ku hg12 9 k11_9
 have k12_11 := ku hg12 11 k11_11
 have k12_47 := ku hg12 47 k11_47
 have k12_48 := ku hg12 48 k11_48
 have k12_49 := ku hg12 49 k11_49
 have k12_50 := ku hg12 50 k11_50
 have k12_51 := ku hg12 51 k11_51
 have k12_52 := kt hg12 52 (upd_same _ _ _)
 refine tail_value (o := _) rfl rfl rfl (v := .int .i64 ac0) (by simp [go_sem, frv 63 k12_8]) ?_
 generalize hg13 : upd g12 53 (.int .i64 ac0) = g13
 have k13_1 := ku hg13 1 k12_1
 have k13_2 := ku hg13 2 k12_2
 have k13_3 := ku hg13 3 k12_3
 have k13_4 := ku hg13 4 k12_4
 have k13_5 := ku hg13 5 k12_5
 have k13_6 := ku hg13 6 k12_6
 have k13_13 := ku hg13 13 k12_13
 have k13_21 := ku hg13 21 k12_21
 have k13_7 := ku hg13 7 k12_7
 have k13_8 := ku hg13 8 k12_8
 have k13_9 := ku hg13 9 k12_9
 have k13_11 := ku hg13 11 k12_11
 have k13_47 := ku hg13 47 k12_47
 have k13_48 := ku hg13 48 k12_48
 have k13_49 := ku hg13 49 k12_49
 have k13_50 := ku hg13 50 k12_50
 have k13_51 := ku hg13 51 k12_51
 have k13_52 := ku hg13 52 k12_52
 have k13_53 := kt hg13 53 (upd_same _ _ _)
 refine tail_value2 (o := _) rfl rfl rfl (v := .slice (some ⟨W11.heap.size, 0, none⟩) 1 1) (W' := W11.alloc (.cells #[.int .i64 ac0] 3 (0, 0))) (by simp [go_sem, frv 63 k13_53]) ?_
 obtain ⟨W14, hw14⟩ : ∃ Y, W11.alloc (.cells #[.int .i64 ac0] 3 (0, 0)) = Y := ⟨_, rfl⟩
 rw [hw14]
 have hb14 : Below W11.heap.size W11 W14 := hw14 ▸ balloc1 _ _
 have bn14 : W14.heap[W11.heap.size]? = some (.cells #[.int .i64 ac0] 3 (0, 0)) := hw14 ▸ blk_new rfl
 obtain ⟨nb14, hnb14⟩ : ∃ b, W11.heap.size = b := ⟨_, rfl⟩
 rw [hnb14] at bn14
 rw [hnb14]
 have fB14 := below_trans fB11 hb14
 have z14 := hb14.size
 have b14_0 := blk_below b11_0 hb14
 have b14_1 := blk_below b11_1 hb14
 have q61' := (q58'.below hb14)
 have q62' := (q59'.below hb14)
 have q63' := (q60'.below hb14)
 have q64' := (on11.below hb14)
 generalize hg14 : upd g13 54 (.slice (some ⟨nb14, 0, none⟩) (1) (1)) = g14
 have k14_1 := ku hg14 1 k13_1
 have k14_2 := ku hg14 2 k13_2
 have k14_3 := ku hg14 3 k13_3
 have k14_4 := ku hg14 4 k13_4
 have k14_5 := ku hg14 5 k13_5
 have k14_6 := ku hg14 6 k13_6
 have k14_13 := ku hg14 13 k13_13
 have k14_21 := ku hg14 21 k13_21
 have k14_7 := ku hg14 7 k13_7
 have k14_8 := ku hg14 8 k13_8
 have k14_9 := ku hg14 9 k13_9
 have k14_11 := ku hg14 11 k13_11
 have k14_47 := ku hg14 47 k13_47
 have k14_48 := ku hg14 48 k13_48
 have k14_49 := ku hg14 49 k13_49
 have k14_50 := ku hg14 50 k13_50
 have k14_51 := ku hg14 51 k13_51
 have k14_52 := ku hg14 52 k13_52
 have k14_53 := ku hg14 53 k13_53
 have k14_54 := kt hg14 54 (upd_same _ _ _)
 obtain ⟨ga15, ca15, W15, ra15, ow15, ot15, z15, gg15, fB15⟩ := growN_tail 29 29 3 1 8 _ (by kernel_rfl) infoI rfl (iis [ac0]) 1 (off := 0) (k := 1) (c' := 1) [.int .i64 ac0] fB14 q61' rfl rfl rfl rfl (cells_at bn14) (by omega)
 refine tail_value2 (o := _) rfl rfl rfl (run_appendOp (fr_ev k14_52) (fr_ev k14_54) ra15) ?_
 have lh15 := OwnN.lim q61'
 have b15_0 := ot15 _ _ (ownN_ne q61' b14_0) b14_0
 have b15_1 := ot15 _ _ (ownN_ne q61' b14_1) b14_1
 have on15 : OwnN 3 1 w.heap.size 1 (iis [ac0]) (some ⟨ga15, 0, none⟩) ca15 W15 := .inr ⟨_, rfl, ow15⟩
 have q65' := OwnN.otherA q62' ap0 ot15 z15
 have q66' := KeepI.grow q63' ou0_x' ot15 z15
 have q67' := OwnN.otherN q64' q61' ot15 z15
 have ap15 : Apart (some ⟨ga15, 0, none⟩) none := (ap0).grow gg15 (fun k e => (OwnN.lim q62' k e).2)
 have ov15_0 := Out.grow ou0_x' gg15 (by omega)
 have kz_0 := q66'.1
 have limR_x := OwnN.lim on15
 generalize hg15 : upd g14 55 (.slice (some ⟨ga15, 0, none⟩) (1) (ca15)) = g15
 have k15_1 := ku hg15 1 k14_1
 have k15_2 := ku hg15 2 k14_2
 have k15_3 := ku hg15 3 k14_3
 have k15_4 := ku hg15 4 k14_4
 have k15_5 := ku hg15 5 k14_5
 have k15_6 := ku hg15 6 k14_6
 have k15_13 := ku hg15 13 k14_13
 have k15_21 := ku hg15 21 k14_21
 have k15_7 := ku hg15 7 k14_7
 have k15_8 := ku hg15 8 k14_8
 have k15_9 := ku hg15 9 k14_9
 have k15_11 := ku hg15 11 k14_11
 have k15_47 := ku hg15 47 k14_47
 have k15_48 := ku hg15 48 k14_48
 have k15_49 := ku hg15 49 k14_49
 have k15_50 := ku hg15 50 k14_50
 have k15_51 := ku hg15 51 k14_51
 have k15_52 := ku hg15 52 k14_52
 have k15_53 := ku hg15 53 k14_53
 have k15_54 := ku hg15 54 k14_54
 have k15_55 := kt hg15 55 (upd_same _ _ _)
 refine tail_value (o := _) rfl rfl rfl (v := .slice (none) (0) (0)) (by simp [go_sem, frv 63 k15_4]) ?_
 generalize hg16 : upd g15 56 (.slice (none) (0) (0)) = g16
 have k16_1 := ku hg16 1 k15_1
 have k16_2 := ku hg16 2 k15_2
 have k16_3 := ku hg16 3 k15_3
 have k16_4 := ku hg16 4 k15_4
 have k16_5 := ku hg16 5 k15_5
 have k16_6 := ku hg16 6 k15_6
 have k16_13 := ku hg16 13 k15_13
 have k16_21 := ku hg16 21 k15_21
 have k16_7 := ku hg16 7 k15_7
 have k16_8 := ku hg16 8 k15_8
 have k16_9 := ku hg16 9 k15_9
 have k16_11 := ku hg16 11 k15_11
 have k16_47 := ku hg16 47 k15_47
 have k16_48 := ku hg16 48 k15_48
 have k16_49 := ku hg16 49 k15_49
 have k16_50 := ku hg16 50 k15_50
 have k16_51 := ku hg16 51 k15_51
 have k16_52 := ku hg16 52 k15_52
 have k16_53 := ku hg16 53 k15_53
 have k16_54 := ku hg16 54 k15_54
 have k16_55 := ku hg16 55 k15_55
 have k16_56 := kt hg16 56 (upd_same _ _ _)
 refine tail_value (o := _) rfl rfl rfl (v := .int .i64 al0) (by simp [go_sem, frv 63 k16_9]) ?_
 generalize hg17 : upd g16 57 (.int .i64 al0) = g17
 have k17_1 := ku hg17 1 k16_1
 have k17_2 := ku hg17 2 k16_2
 have k17_3 := ku hg17 3 k16_3
 have k17_4 := ku hg17 4 k16_4
 have k17_5 := ku hg17 5 k16_5
 have k17_6 := ku hg17 6 k16_6
 have k17_13 := ku hg17 13 k16_13
 have k17_21 := ku hg17 21 k16_21
 have k17_7 := ku hg17 7 k16_7
 have k17_8 := ku hg17 8 k16_8
 have k17_9 := ku hg17 9 k16_9
 have k17_11 := ku hg17 11 k16_11
 have k17_47 := ku hg17 47 k16_47
 have k17_48 := ku hg17 48 k16_48
 have k17_49 := ku hg17 49 k16_49
 have k17_50 := ku hg17 50 k16_50
 have k17_51 := ku hg17 51 k16_51
 have k17_52 := ku hg17 52 k16_52
 have k17_53 := ku hg17 53 k16_53
 have k17_54 := ku hg17 54 k16_54
 have k17_55 := ku hg17 55 k16_55
 have k17_56 := ku hg17 56 k16_56
 have k17_57 := kt hg17 57 (upd_same _ _ _)
 refine tail_value2 (o := _) rfl rfl rfl (v := .slice (some ⟨W15.heap.size, 0, none⟩) 1 1) (W' := W15.alloc (.cells #[.int .i64 al0] 3 (0, 0))) (by simp [go_sem, frv 63 k17_57]) ?_
 obtain ⟨W18, hw18⟩ : ∃ Y, W15.alloc (.cells #[.int .i64 al0] 3 (0, 0)) = Y := ⟨_, rfl⟩
 rw [hw18]
 have hb18 : Below W15.heap.size W15 W18 := hw18 ▸ balloc1 _ _
 have bn18 : W18.heap[W15.heap.size]? = some (.cells #[.int .i64 al0] 3 (0, 0)) := hw18 ▸ blk_new rfl
 obtain ⟨nb18, hnb18⟩ : ∃ b, W15.heap.size = b := ⟨_, rfl⟩
 rw [hnb18] at bn18
 rw [hnb18]
 have fB18 := below_trans fB15 hb18
 have z18 := hb18.size
 have b18_0 := blk_below b15_0 hb18
 have b18_1 := blk_below b15_1 hb18
 have q68' := (q65'.below hb18)
 have q69' := (q66'.below hb18)
 have q70' := (q67'.below hb18)
 have q71' := (on15.below hb18)
 generalize hg18 : upd g17 58 (.slice (some ⟨nb18, 0, none⟩) (1) (1)) = g18
 have k18_1 := ku hg18 1 k17_1
 have k18_2 := ku hg18 2 k17_2
 have k18_3 := ku hg18 3 k17_3
 have k18_4 := ku hg18 4 k17_4
 have k18_5 := ku hg18 5 k17_5
 have k18_6 := ku hg18 6 k17_6
 have k18_13 := ku hg18 13 k17_13
 have k18_21 := ku hg18 21 k17_21
 have k18_7 := ku hg18 7 k17_7
 have k18_8 := ku hg18 8 k17_8
 have k18_9 := ku hg18 9 k17_9
 have k18_11 := ku hg18 11 k17_11
 have k18_47 := ku hg18 47 k17_47
 have k18_48 := ku hg18 48 k17_48
 have k18_49 := ku hg18 49 k17_49
 have k18_50 := ku hg18 50 k17_50
 have k18_51 := ku hg18 51 k17_51
 have k18_52 := ku hg18 52 k17_52
 have k18_53 := ku hg18 53 k17_53
 have k18_54 := ku hg18 54 k17_54
 have k18_55 := ku hg18 55 k17_55
 have k18_56 := ku hg18 56 k17_56
 have k18_57 := ku hg18 57 k17_57
 have k18_58 := kt hg18 58 (upd_same _ _ _)
 obtain ⟨ga19, ca19, W19, ra19, ow19, ot19, z19, gg19, fB19⟩ := growN_tail 29 29 3 1 8 _ (by kernel_rfl) infoI rfl (iis [al0]) 1 (off := 0) (k := 1) (c' := 1) [.int .i64 al0] fB18 q68' rfl rfl rfl rfl (cells_at bn18) (by omega)
 refine tail_value2 (o := _) rfl rfl rfl (run_appendOp (fr_ev k18_56) (fr_ev k18_58) ra19) ?_
 have lh19 := OwnN.lim q68'
 have b19_0 := ot19 _ _ (ownN_ne q68' b18_0) b18_0
 have b19_1 := ot19 _ _ (ownN_ne q68' b18_1) b18_1
 have on19 : OwnN 3 1 w.heap.size 1 (iis [al0]) (some ⟨ga19, 0, none⟩) ca19 W19 := .inr ⟨_, rfl, ow19⟩
 have q72' := KeepI.grow q69' ou0_y' ot19 z19
 have q73' := OwnN.otherN q70' q68' ot19 z19
 have q74' := OwnN.otherA q71' (ap15).symm ot19 z19
 have ap19 : Apart (some ⟨ga15, 0, none⟩) (some ⟨ga19, 0, none⟩) := ((ap15).symm.grow gg19 (fun k e => (OwnN.lim q71' k e).2)).symm
 have ov19_0 := Out.grow ou0_y' gg19 (by omega)
 have kz_0 := q72'.1
 have limR_y := OwnN.lim on19
 generalize hg19 : upd g18 59 (.slice (some ⟨ga19, 0, none⟩) (1) (ca19)) = g19
 have k19_1 := ku hg19 1 k18_1
 have k19_2 := ku hg19 2 k18_2
 have k19_3 := ku hg19 3 k18_3
 have k19_4 := ku hg19 4 k18_4
 have k19_5 := ku hg19 5 k18_5
 have k19_6 := ku hg19 6 k18_6
 have k19_13 := ku hg19 13 k18_13
 have k19_21 := ku hg19 21 k18_21
 have k19_7 := ku hg19 7 k18_7
 have k19_8 := ku hg19 8 k18_8
 have k19_9 := ku hg19 9 k18_9
 have k19_11 := ku hg19 11 k18_11
 have k19_47 := ku hg19 47 k18_47
 have k19_48 := ku hg19 48 k18_48
 have k19_49 := ku hg19 49 k18_49
 have k19_50 := ku hg19 50 k18_50
 have k19_51 := ku hg19 51 k18_51
 have k19_52 := ku hg19 52 k18_52
 have k19_53 := ku hg19 53 k18_53
 have k19_54 := ku hg19 54 k18_54
 have k19_55 := ku hg19 55 k18_55
 have k19_56 := ku hg19 56 k18_56
 have k19_57 := ku hg19 57 k18_57
 have k19_58 := ku hg19 58 k18_58
 have k19_59 := kt hg19 59 (upd_same _ _ _)
 refine tail_value (o := _) rfl rfl rfl (v := .slice (some ⟨ga11, 0, none⟩) (1) (ca11)) (by simp [go_sem, frv 63 k19_51]) ?_
 generalize hg20 : upd g19 2 (.slice (some ⟨ga11, 0, none⟩) (1) (ca11)) = g20
 have k20_1 := ku hg20 1 k19_1
 have k20_3 := ku hg20 3 k19_3
 have k20_4 := ku hg20 4 k19_4
 have k20_5 := ku hg20 5 k19_5
 have k20_6 := ku hg20 6 k19_6
 have k20_13 := ku hg20 13 k19_13
 have k20_21 := ku hg20 21 k19_21
 have k20_7 := ku hg20 7 k19_7
 have k20_8 := ku hg20 8 k19_8
 have k20_9 := ku hg20 9 k19_9
 have k20_11 := ku hg20 11 k19_11
 have k20_47 := ku hg20 47 k19_47
 have k20_48 := ku hg20 48 k19_48
 have k20_49 := ku hg20 49 k19_49
 have k20_50 := ku hg20 50 k19_50
 have k20_51 := ku hg20 51 k19_51
 have k20_52 := ku hg20 52 k19_52
 have k20_53 := ku hg20 53 k19_53
 have k20_54 := ku hg20 54 k19_54
 have k20_55 := ku hg20 55 k19_55
 have k20_56 := ku hg20 56 k19_56
 have k20_57 := ku hg20 57 k19_57
 have k20_58 := ku hg20 58 k19_58
 have k20_59 := ku hg20 59 k19_59
 have k20_2 := kt hg20 2 (upd_same _ _ _)
 refine tail_value (o := _) rfl rfl rfl (v := .slice (some ⟨ga15, 0, none⟩) (1) (ca15)) (by simp [go_sem, frv 63 k20_55]) ?_
 generalize hg21 : upd g20 3 (.slice (some ⟨ga15, 0, none⟩) (1) (ca15)) = g21
 have k21_1 := ku hg21 1 k20_1
 have k21_4 := ku hg21 4 k20_4
 have k21_5 := ku hg21 5 k20_5
 have k21_6 := ku hg21 6 k20_6
 have k21_13 := ku hg21 13 k20_13
 have k21_21 := ku hg21 21 k20_21
 have k21_7 := ku hg21 7 k20_7
 have k21_8 := ku hg21 8 k20_8
 have k21_9 := ku hg21 9 k20_9
 have k21_11 := ku hg21 11 k20_11
 have k21_47 := ku hg21 47 k20_47
 have k21_48 := ku hg21 48 k20_48
 have k21_49 := ku hg21 49 k20_49
 have k21_50 := ku hg21 50 k20_50
 have k21_51 := ku hg21 51 k20_51
 have k21_52 := ku hg21 52 k20_52
 have k21_53 := ku hg21 53 k20_53
 have k21_54 := ku hg21 54 k20_54
 have k21_55 := ku hg21 55 k20_55
 have k21_56 := ku hg21 56 k20_56
 have k21_57 := ku hg21 57 k20_57
 have k21_58 := ku hg21 58 k20_58
 have k21_59 := ku hg21 59 k20_59
 have k21_2 := ku hg21 2 k20_2
 have k21_3 := kt hg21 3 (upd_same _ _ _)
 refine tail_value (o := _) rfl rfl rfl (v := .slice (some ⟨ga19, 0, none⟩) (1) (ca19)) (by simp [go_sem, frv 63 k21_59]) ?_
 generalize hg22 : upd g21 4 (.slice (some ⟨ga19, 0, none⟩) (1) (ca19)) = g22
 have k22_1 := ku hg22 1 k21_1
 have k22_5 := ku hg22 5 k21_5
 have k22_6 := ku hg22 6 k21_6
 have k22_13 := ku hg22 13 k21_13
 have k22_21 := ku hg22 21 k21_21
 have k22_7 := ku hg22 7 k21_7
 have k22_8 := ku hg22 8 k21_8
 have k22_9 := ku hg22 9 k21_9
 have k22_11 := ku hg22 11 k21_11
 have k22_47 := ku hg22 47 k21_47
 have k22_48 := ku hg22 48 k21_48
 have k22_49 := ku hg22 49 k21_49
 have k22_50 := ku hg22 50 k21_50
 have k22_51 := ku hg22 51 k21_51
 have k22_52 := ku hg22 52 k21_52
 have k22_53 := ku hg22 53 k21_53
 have k22_54 := ku hg22 54 k21_54
 have k22_55 := ku hg22 55 k21_55
 have k22_56 := ku hg22 56 k21_56
 have k22_57 := ku hg22 57 k21_57
 have k22_58 := ku hg22 58 k21_58
 have k22_59 := ku hg22 59 k21_59
 have k22_2 := ku hg22 2 k21_2
 have k22_3 := ku hg22 3 k21_3
 have k22_4 := kt hg22 4 (upd_same _ _ _)
 refine wpOps_end ?_
 refine inBlock_normal ?_
 refine hK7 _ _ ?_
 refine region_dk 3 [(14, 0), (15, 1), (6, 2)] [[], [0], [0, 1]] (rel [is (.int .i64 0),
   is (.int .i64 1),
   is (.int .i64 1)])
  ⟨is_k, is_k, is_k, trivial⟩
  ⟨fun f s W i j l m n a => opv rfl rfl (by simp [go_sem, a.e 6 ((m 2 6 rfl rfl).trans k22_6)]) rfl,
  fun f s W i j l m n a => opv rfl rfl (by simp [go_sem, a.e 14 (j 0 rfl), IntWalk.i64_in (1) (by omega)]) rfl,
  fun f s W i j l m n a => opv rfl rfl (by simp [go_sem, a.e 15 (j 1 rfl)]) rfl, trivial⟩ ?_
 intro f23 s23 W23 hB23 g23 hg23
 have fB23 := hB23.f fB19
 have z23 := hB23.below.size
 have b23_0 := hB23.b b19_0
 have b23_1 := hB23.b b19_1
 have q75' := (q72'.below hB23.below)
 have q76' := (q73'.below hB23.below)
 have q77' := (q74'.below hB23.below)
 have q78' := (on19.below hB23.below)
 refine wpOps_end ?_
 have k23_1 := kt hg23 1 k22_1
 have k23_5 := kt hg23 5 k22_5
 have k23_13 := kt hg23 13 k22_13
 have k23_21 := kt hg23 21 k22_21
 have k23_7 := kt hg23 7 k22_7
 have k23_8 := kt hg23 8 k22_8
 have k23_9 := kt hg23 9 k22_9
 have k23_11 := kt hg23 11 k22_11
 have k23_47 := kt hg23 47 k22_47
 have k23_48 := kt hg23 48 k22_48
 have k23_49 := kt hg23 49 k22_49
 have k23_50 := kt hg23 50 k22_50
 have k23_51 := kt hg23 51 k22_51
 have k23_52 := kt hg23 52 k22_52
 have k23_53 := kt hg23 53 k22_53
 have k23_54 := kt hg23 54 k22_54
 have k23_55 := kt hg23 55 k22_55
 have k23_56 := kt hg23 56 k22_56
 have k23_57 := kt hg23 57 k22_57
 have k23_58 := kt hg23 58 k22_58
 have k23_59 := kt hg23 59 k22_59
 have k23_2 := kt hg23 2 k22_2
 have k23_3 := kt hg23 3 k22_3
 have k23_4 := kt hg23 4 k22_4
 have k23_6 := kt hg23 6 (hB23.is 2)
 refine then_normal ?_
 rw [rounds_succ]
 refine wp_seq_k fun K13 hK13 => ?_
 refine wp_seq_k fun K14 hK14 => ?_
 refine region_dk 2 [(12, 0), (13, 1)] [[], [0]] (rel [is (.int .i64 1),
   is (.bool true)])
  ⟨is_k, is_k, trivial⟩
  ⟨fun f s W i j l m n a => opv rfl rfl (by simp [go_sem, a.e 6 k23_6]) rfl,
  fun f s W i j l m n a => opv rfl rfl (by simp [go_sem, a.e 12 (j 0 rfl)]) rfl, trivial⟩ ?_
 intro f24 s24 W24 hB24 g24 hg24
 have fB24 := hB24.f fB23
 have z24 := hB24.below.size
 have b24_0 := hB24.b b23_0
 have b24_1 := hB24.b b23_1
 have q79' := (q75'.below hB24.below)
 have q80' := (q76'.below hB24.below)
 have q81' := (q77'.below hB24.below)
 have q82' := (q78'.below hB24.below)
 refine hK14 _ _ ?_
 have k24_1 := kt hg24 1 k23_1
 have k24_5 := kt hg24 5 k23_5
 have k24_21 := kt hg24 21 k23_21
 have k24_7 := kt hg24 7 k23_7
 have k24_8 := kt hg24 8 k23_8
 have k24_9 := kt hg24 9 k23_9
 have k24_11 := kt hg24 11 k23_11
 have k24_47 := kt hg24 47 k23_47
 have k24_48 := kt hg24 48 k23_48
 have k24_49 := kt hg24 49 k23_49
 have k24_50 := kt hg24 50 k23_50
 have k24_51 := kt hg24 51 k23_51
 have k24_52 := kt hg24 52 k23_52
 have k24_53 := kt hg24 53 k23_53
 have k24_54 := kt hg24 54 k23_54
 have k24_55 := kt hg24 55 k23_55
 have k24_56 := kt hg24 56 k23_56
 have k24_57 := kt hg24 57 k23_57
 have k24_58 := kt hg24 58 k23_58
 have k24_59 := kt hg24 59 k23_59
 have k24_2 := kt hg24 2 k23_2
 have k24_3 := kt hg24 3 k23_3
 have k24_4 := kt hg24 4 k23_4
 have k24_6 := kt hg24 6 k23_6
 have k24_13 := kt hg24 13 (hB24.is 1)
 refine wp_cond_true ((fr_eval rfl).trans k24_13) ?_
 refine wp_skip ?_
 refine hK13 _ _ ?_
 refine wp_seq_k fun K16 hK16 => ?_
 refine wp_block ?_
 refine wp_seq_k fun K17 hK17 => ?_
 have limR_l := OwnN.lim q80'
 have limR_x := OwnN.lim q81'
 have limR_y := OwnN.lim q82'
 have limQ_l := OwnN.lim q80'
 have limQ_x := OwnN.lim q81'
 have limQ_y := OwnN.lim q82'
 refine region_dk 7 [(16, 0), (17, 1), (18, 2), (19, 3), (20, 4), (21, 5), (7, 6)] [[], [], [0, 1], [0, 1, 2], [0, 1, 2, 3], [0, 1, 2, 3, 4], [], [0, 1, 2, 3, 4, 5, 6]] (rel [is (.int .i64 1),
   is (.pointer (some ⟨(s1 0), 0, none⟩)),
   is (.pointer (some ⟨(s1 0), 7, none⟩)),
   is (.agg #[.int .u8 ((sv 7)), .int .u8 ((sv 8)), .int .u8 ((sv 9)), .int .u8 ((sv 10)), .int .u8 ((sv 11)), .int .u8 ((sv 12)), .int .u8 ((sv 13))]),
   is (.agg #[.int .u8 0, .int .u8 0, .int .u8 0, .int .u8 0, .int .u8 0, .int .u8 0, .int .u8 0, .int .u8 0, .int .u8 0, .int .u8 0, .int .u8 0, .int .u8 0, .int .u8 0, .int .u8 0, .int .u8 0, .int .u8 0, .int .u8 0, .int .u8 0, .int .u8 ((sv 7)), .int .u8 ((sv 8)), .int .u8 ((sv 9)), .int .u8 ((sv 10)), .int .u8 ((sv 11)), .int .u8 ((sv 12)), .int .u8 ((sv 13))]),
   ab fun v W => BoxO W24.heap.size tb1 lg1 wd1 hh1 fp1 fq1 sl1 v W,
   bx 6 #[.int .i64 0, .slice (none) (0) (0), .int .i64 0, .slice (none) (0) (0), .slice (none) (0) (0), .int .i64 0, .bool false] 57])
  ⟨is_k, is_k, is_k, is_k, is_k, ab_k fun v W W' hb h => h.below hb, bx_k, trivial⟩
  ⟨fun f s W i j l m n a => opv rfl rfl (by simp [go_sem, a.e 6 k24_6]) rfl,
  fun f s W i j l m n a => opv rfl rfl (by simp [go_sem, a.e 1 k24_1]) rfl,
  fun f s W i j l m n a => opv rfl rfl (by simp [go_sem, a.e 17 (j 1 rfl), a.e 16 (j 0 rfl)]) rfl,
  fun f s W i j l m n a => opv rfl rfl (by simp [go_sem, a.e 18 (j 2 rfl), cb b24_0 i 7, cb b24_0 i 8, cb b24_0 i 9, cb b24_0 i 10, cb b24_0 i 11, cb b24_0 i 12, cb b24_0 i 13]) rfl,
  fun f s W i j l m n a => opv rfl rfl (by simp [go_sem, a.e 19 (j 3 rfl)]) rfl,
  fun f s W i j l m n a => opDo_call rfl rfl (by simp [go_sem, a.e 20 (j 4 rfl)]) (hbox1 W) ((fun e W' h => by obtain ⟨v, e1, h1, h2⟩ := h; exact ⟨_, e1, h2, h1.low i.size⟩)),
  fun f s W i j l m n a => opb rfl rfl (by simp [go_sem]), trivial⟩ ?_
 intro f25 s25 W25 hB25 g25 hg25
 have fB25 := hB25.f fB24
 have z25 := hB25.below.size
 have b25_0 := hB25.b b24_0
 have q83' := (q79'.below hB25.below)
 have q84' := (q80'.below hB25.below)
 have q85' := (q81'.below hB25.below)
 have q86' := (q82'.below hB25.below)
 obtain ⟨g87', c90', g88', c91', g89', c92', r25_5, q93', q94', q95'⟩ := hB25.is 5
 obtain ⟨r25_6, br25_6⟩ := hB25.is 6
 have lr25_6 := hB25.lr 6 br25_6
 have k25_1 := kt hg25 1 k24_1
 have k25_5 := kt hg25 5 k24_5
 have k25_8 := kt hg25 8 k24_8
 have k25_9 := kt hg25 9 k24_9
 have k25_11 := kt hg25 11 k24_11
 have k25_47 := kt hg25 47 k24_47
 have k25_48 := kt hg25 48 k24_48
 have k25_49 := kt hg25 49 k24_49
 have k25_50 := kt hg25 50 k24_50
 have k25_51 := kt hg25 51 k24_51
 have k25_52 := kt hg25 52 k24_52
 have k25_53 := kt hg25 53 k24_53
 have k25_54 := kt hg25 54 k24_54
 have k25_55 := kt hg25 55 k24_55
 have k25_56 := kt hg25 56 k24_56
 have k25_57 := kt hg25 57 k24_57
 have k25_58 := kt hg25 58 k24_58
 have k25_59 := kt hg25 59 k24_59
 have k25_2 := kt hg25 2 k24_2
 have k25_3 := kt hg25 3 k24_3
 have k25_4 := kt hg25 4 k24_4
 have k25_6 := kt hg25 6 k24_6
 have k25_13 := kt hg25 13 k24_13
 have k25_21 := kt hg25 21 r25_5
 have k25_7 := kt hg25 7 r25_6
 have kz_0 := q83'.1
 obtain ⟨W26, hW26⟩ : ∃ W', W' = W25.setRow (s25 6) #[.int .i64 tb1, .slice (some ⟨g87', 0, none⟩) (4) (c90'), .int .i64 hh1, .slice (some ⟨g88', 0, none⟩) (2) (c91'), .slice (some ⟨g89', 0, none⟩) (2) (c92'), .int .i64 sl1, .bool false] := ⟨_, rfl⟩
 refine tail_skip (o := _) rfl ⟨rfl, rfl⟩ (run_seg hW26 (fr_ev k25_7) (fr_ev k25_21) br25_6 rfl rfl rfl rfl) ?_
 obtain ⟨fB26, nb26, ot26, z26⟩ := seg_facts hW26 fB25 br25_6 (by omega)
 clear hW26
 have b26_0 := ot26 _ _ (by omega) b25_0
 have q96' := q84'.other ot26 (fun g e => by have := limR_l g e; omega) z26
 have q97' := q85'.other ot26 (fun g e => by have := limR_x g e; omega) z26
 have q98' := q86'.other ot26 (fun g e => by have := limR_y g e; omega) z26
 have q99' := q93'.other ot26 (own_ne q93' br25_6) z26
 have q100' := q94'.other ot26 (own_ne q94' br25_6) z26
 have q101' := q95'.other ot26 (own_ne q95' br25_6) z26
 have q102' := q83'.ot ot26 (by omega) z26
 refine wpOps_end ?_
 refine hK17 _ _ ?_
 have ki1 : KeepI W24.heap.size W26 W26 := KeepI.refl _ _
 have ou1_l' : Out W24.heap.size W26.heap.size (some ⟨ga11, 0, none⟩) := fun k e => .inl (limR_l k e).2
 have ou1_x' : Out W24.heap.size W26.heap.size (some ⟨ga15, 0, none⟩) := fun k e => .inl (limR_x k e).2
 have ou1_y' : Out W24.heap.size W26.heap.size (some ⟨ga19, 0, none⟩) := fun k e => .inl (limR_y k e).2
 refine wp_seq_k fun K18 hK18 => ?_
 refine region_dk 12 [(23, 0), (24, 1), (25, 2), (22, 3), (26, 4), (27, 5), (28, 6), (29, 7), (8, 8), (9, 9), (10, 10), (11, 11)] [[], [0], [0, 1], [0, 1, 2], [0, 1, 2, 3], [0, 1, 2, 3], [0, 1, 2, 3], [0, 1, 2, 3], [0, 1, 2, 3, 4], [0, 1, 2, 3, 4, 5, 8], [0, 1, 2, 3, 4, 5, 6, 8, 9], [0, 1, 2, 3, 4, 5, 6, 7, 8, 9, 10]] (rel [is (.agg #[.int .i64 tb1, .slice (some ⟨g87', 0, none⟩) (4) (c90'), .int .i64 hh1, .slice (some ⟨g88', 0, none⟩) (2) (c91'), .slice (some ⟨g89', 0, none⟩) (2) (c92'), .int .i64 sl1, .bool false]),
   ab fun v W => NwBlk 0 (bb1) v W,
   is (.tuple #[.int .i64 ac1, .int .i64 al1, .int .i64 A1, .int .i64 0]),
   is (.tuple #[.int .i64 ac1, .int .i64 al1, .int .i64 A1, .int .i64 0]),
   is (.int .i64 ac1),
   is (.int .i64 al1),
   is (.int .i64 A1),
   is (.int .i64 0),
   is (.int .i64 ac1),
   is (.int .i64 al1),
   is (.int .i64 A1),
   is (.int .i64 0)])
  ⟨is_k, ab_k fun v W W' hb h => h.below hb, is_k, is_k, is_k, is_k, is_k, is_k, is_k, is_k, is_k, is_k, trivial⟩
  ⟨fun f s W i j l m n a => opl rfl rfl rfl (a.v 7 k25_7) (blk_below nb26 i) Try.underlying57 rfl (by kernel_rfl) rfl,
  fun f s W i j l m n a => opDo_call (args := #[.agg #[.int .i64 tb1, .slice (some ⟨g87', 0, none⟩) (4) (c90'), .int .i64 hh1, .slice (some ⟨g88', 0, none⟩) (2) (c91'), .slice (some ⟨g89', 0, none⟩) (2) (c92'), .int .i64 sl1, .bool false]]) rfl rfl (by simp [go_sem, a.e 23 (j 0 rfl)]) (pubBlank_any _ _ _ _ _ _ (⟨tb1, [lg1, wd1, lg1, wd1], hh1, [fp1, fp1], [fp1, fq1], sl1, false⟩ : Bl) W ((q99'.below i)).ii ((q100'.below i)).ii ((q101'.below i)).ii (show 4 ≤ 1000 by decide) (show 2 ≤ 1000 by decide) (show 2 ≤ 1000 by decide)) ((fun e W' h => by obtain ⟨v, e1, h1, h2⟩ := h; rw [hbb1] at h1; exact ⟨_, e1, h2, h1.low (Nat.zero_le _)⟩)),
  fun f s W i j l m n a => by obtain ⟨g103', c106', g104', c107', g105', c108', d1, ⟨q109', q111', q110'⟩, ⟨q112', q114', q113'⟩, ⟨q115', q117', q116'⟩⟩ := (j 1 rfl); exact opDo_call (args := #[.agg #[.int .i64 bb1.tab, .slice (some ⟨g103', 0, none⟩) (bb1.panels.length) (c106'), .int .i64 bb1.height, .slice (some ⟨g104', 0, none⟩) (bb1.top.length) (c107'), .slice (some ⟨g105', 0, none⟩) (bb1.bottom.length) (c108'), .int .i64 bb1.slot, .bool bb1.isOpen]]) rfl rfl (by simp [go_sem, a.e 24 d1]) (size_any _ bb1 W ⟨_, _, _, _, _, _, _, _, _, rfl, q109', q112', q115'⟩) ((fun e W' h => by have h1 := h.1; rw [if_pos hck1, hac1, hal1, hA1] at h1; exact ⟨_, h1, h.2, rfl⟩)),
  fun f s W i j l m n a => opv rfl rfl (by simp [go_sem, a.e 25 (j 2 rfl)]) rfl,
  fun f s W i j l m n a => opv rfl rfl (by simp [go_sem, a.e 22 (j 3 rfl)]) rfl,
  fun f s W i j l m n a => opv rfl rfl (by simp [go_sem, a.e 22 (j 3 rfl)]) rfl,
  fun f s W i j l m n a => opv rfl rfl (by simp [go_sem, a.e 22 (j 3 rfl)]) rfl,
  fun f s W i j l m n a => opv rfl rfl (by simp [go_sem, a.e 22 (j 3 rfl)]) rfl,
  fun f s W i j l m n a => opv rfl rfl (by simp [go_sem, a.e 26 (j 4 rfl)]) rfl,
  fun f s W i j l m n a => opv rfl rfl (by simp [go_sem, a.e 27 (j 5 rfl)]) rfl,
  fun f s W i j l m n a => opv rfl rfl (by simp [go_sem, a.e 28 (j 6 rfl)]) rfl,
  fun f s W i j l m n a => opv rfl rfl (by simp [go_sem, a.e 29 (j 7 rfl)]) rfl, trivial⟩ ?_
 intro f27 s27 W27 hB27 g27 hg27
 have fB27 := hB27.f fB26
 have z27 := hB27.below.size
 have b27_0 := hB27.b b26_0
 have b27_1 := hB27.b nb26
 have q118' := (q96'.below hB27.below)
 have q119' := (q97'.below hB27.below)
 have q120' := (q98'.below hB27.below)
 have q121' := (q99'.below hB27.below)
 have q122' := (q100'.below hB27.below)
 have q123' := (q101'.below hB27.below)
 have q124' := (q102'.below hB27.below)
 have q125' := (ki1.below hB27.below)
 refine hK18 _ _ ?_
 have k27_1 := kt hg27 1 k25_1
 have k27_5 := kt hg27 5 k25_5
 have k27_47 := kt hg27 47 k25_47
 have k27_48 := kt hg27 48 k25_48
 have k27_49 := kt hg27 49 k25_49
 have k27_50 := kt hg27 50 k25_50
 have k27_51 := kt hg27 51 k25_51
 have k27_52 := kt hg27 52 k25_52
 have k27_53 := kt hg27 53 k25_53
 have k27_54 := kt hg27 54 k25_54
 have k27_55 := kt hg27 55 k25_55
 have k27_56 := kt hg27 56 k25_56
 have k27_57 := kt hg27 57 k25_57
 have k27_58 := kt hg27 58 k25_58
 have k27_59 := kt hg27 59 k25_59
 have k27_2 := kt hg27 2 k25_2
 have k27_3 := kt hg27 3 k25_3
 have k27_4 := kt hg27 4 k25_4
 have k27_6 := kt hg27 6 k25_6
 have k27_13 := kt hg27 13 k25_13
 have k27_21 := kt hg27 21 k25_21
 have k27_7 := kt hg27 7 k25_7
 have k27_8 := kt hg27 8 (hB27.is 8)
 have k27_9 := kt hg27 9 (hB27.is 9)
 have k27_11 := kt hg27 11 (hB27.is 11)
 refine wp_seq_k fun K19 hK19 => ?_
 refine wp_seq_k fun K20 hK20 => ?_
 refine region_dk 18 [(30, 0), (31, 1), (32, 2), (33, 3), (34, 4), (35, 5), (36, 6), (37, 7), (38, 8), (39, 9), (40, 10), (41, 11), (42, 12), (43, 13), (44, 14), (45, 15), (46, 16), (47, 17)] [[], [0], [0, 1], [0, 1, 2], [0, 1, 2, 3], [0, 1, 2, 3, 4], [0, 1, 2, 3, 4, 5], [0, 1, 2, 3, 4, 5, 6], [0, 1, 2, 3, 4, 5, 6, 7], [0, 1, 2, 3, 4, 5, 6, 7, 8], [0, 1, 2, 3, 4, 5, 6, 7, 8, 9], [0, 1, 2, 3, 4, 5, 6, 7, 8, 9, 10], [0, 1, 2, 3, 4, 5, 6, 7, 8, 9, 10, 11], [0, 1, 2, 3, 4, 5, 6, 7, 8, 9, 10, 11, 12], [0, 1, 2, 3, 4, 5, 6, 7, 8, 9, 10, 11, 12, 13], [0, 1, 2, 3, 4, 5, 6, 7, 8, 9, 10, 11, 12, 13, 14], [0, 1, 2, 3, 4, 5, 6, 7, 8, 9, 10, 11, 12, 13, 14, 15], [0, 1, 2, 3, 4, 5, 6, 7, 8, 9, 10, 11, 12, 13, 14, 15, 16]] (rel [is (.int .i64 0),
   is (.bool false),
   is (.bool false),
   is (.int .i64 ac1),
   is (.bool false),
   is (.bool false),
   is (.bool false),
   is (.int .i64 ac1),
   is (.bool false),
   is (.bool false),
   is (.bool false),
   is (.int .i64 al1),
   is (.bool false),
   is (.bool false),
   is (.bool false),
   is (.int .i64 al1),
   is (.bool false),
   is (.bool false)])
  ⟨is_k, is_k, is_k, is_k, is_k, is_k, is_k, is_k, is_k, is_k, is_k, is_k, is_k, is_k, is_k, is_k, is_k, is_k, trivial⟩
  ⟨fun f s W i j l m n a => opv rfl rfl (by simp [go_sem, a.e 11 k27_11]) rfl,
  fun f s W i j l m n a => opv rfl rfl (by simp [go_sem, a.e 30 (j 0 rfl)]) rfl,
  fun f s W i j l m n a => opv rfl rfl (by simp [go_sem, a.e 31 (j 1 rfl)]) rfl,
  fun f s W i j l m n a => osure rfl rfl (a.says (d := 32) rfl rfl (j 2 rfl)) (gv (by simp [go_sem, a.e 8 k27_8]) rfl),
  fun f s W i j l m n a => osure rfl rfl (a.says (d := 32) rfl rfl (j 2 rfl)) (gv (by simp [go_sem, a.e 33 (j 3 rfl), hd1_0]) rfl),
  fun f s W i j l m n a => opk (c := false) rfl rfl (fun _ => by simp [go_sem, a.e 32 (j 2 rfl), a.e 34 (j 4 rfl)]) (fun h => absurd h (by decide)),
  fun f s W i j l m n a => opv rfl rfl (by simp [go_sem, a.e 35 (j 5 rfl)]) rfl,
  fun f s W i j l m n a => osure rfl rfl (a.says (d := 36) rfl rfl (j 6 rfl)) (gv (by simp [go_sem, a.e 8 k27_8]) rfl),
  fun f s W i j l m n a => osure rfl rfl (a.says (d := 36) rfl rfl (j 6 rfl)) (gv (by simp [go_sem, a.e 37 (j 7 rfl), hd1_1]) rfl),
  fun f s W i j l m n a => opk (c := false) rfl rfl (fun _ => by simp [go_sem, a.e 36 (j 6 rfl), a.e 38 (j 8 rfl)]) (fun h => absurd h (by decide)),
  fun f s W i j l m n a => opv rfl rfl (by simp [go_sem, a.e 39 (j 9 rfl)]) rfl,
  fun f s W i j l m n a => osure rfl rfl (a.says (d := 40) rfl rfl (j 10 rfl)) (gv (by simp [go_sem, a.e 9 k27_9]) rfl),
  fun f s W i j l m n a => osure rfl rfl (a.says (d := 40) rfl rfl (j 10 rfl)) (gv (by simp [go_sem, a.e 41 (j 11 rfl), hd1_2]) rfl),
  fun f s W i j l m n a => opk (c := false) rfl rfl (fun _ => by simp [go_sem, a.e 40 (j 10 rfl), a.e 42 (j 12 rfl)]) (fun h => absurd h (by decide)),
  fun f s W i j l m n a => opv rfl rfl (by simp [go_sem, a.e 43 (j 13 rfl)]) rfl,
  fun f s W i j l m n a => osure rfl rfl (a.says (d := 44) rfl rfl (j 14 rfl)) (gv (by simp [go_sem, a.e 9 k27_9]) rfl),
  fun f s W i j l m n a => osure rfl rfl (a.says (d := 44) rfl rfl (j 14 rfl)) (gv (by simp [go_sem, a.e 45 (j 15 rfl), hd1_3]) rfl),
  fun f s W i j l m n a => opk (c := false) rfl rfl (fun _ => by simp [go_sem, a.e 44 (j 14 rfl), a.e 46 (j 16 rfl)]) (fun h => absurd h (by decide)), trivial⟩ ?_
 intro f28 s28 W28 hB28 g28 hg28
 have fB28 := hB28.f fB27
 have z28 := hB28.below.size
 have b28_0 := hB28.b b27_0
 have b28_1 := hB28.b b27_1
 have q126' := (q118'.below hB28.below)
 have q127' := (q119'.below hB28.below)
 have q128' := (q120'.below hB28.below)
 have q129' := (q121'.below hB28.below)
 have q130' := (q122'.below hB28.below)
 have q131' := (q123'.below hB28.below)
 have q132' := (q124'.below hB28.below)
 have q133' := (q125'.below hB28.below)
 refine hK20 _ _ ?_
 have k28_1 := kt hg28 1 k27_1
 have k28_5 := kt hg28 5 k27_5
 have k28_48 := kt hg28 48 k27_48
 have k28_49 := kt hg28 49 k27_49
 have k28_50 := kt hg28 50 k27_50
 have k28_51 := kt hg28 51 k27_51
 have k28_52 := kt hg28 52 k27_52
 have k28_53 := kt hg28 53 k27_53
 have k28_54 := kt hg28 54 k27_54
 have k28_55 := kt hg28 55 k27_55
 have k28_56 := kt hg28 56 k27_56
 have k28_57 := kt hg28 57 k27_57
 have k28_58 := kt hg28 58 k27_58
 have k28_59 := kt hg28 59 k27_59
 have k28_2 := kt hg28 2 k27_2
 have k28_3 := kt hg28 3 k27_3
 have k28_4 := kt hg28 4 k27_4
 have k28_6 := kt hg28 6 k27_6
 have k28_13 := kt hg28 13 k27_13
 have k28_21 := kt hg28 21 k27_21
 have k28_7 := kt hg28 7 k27_7
 have k28_8 := kt hg28 8 k27_8
 have k28_9 := kt hg28 9 k27_9
 have k28_11 := kt hg28 11 k27_11
 have k28_47 := kt hg28 47 (hB28.is 17)
 refine wp_cond_false ((fr_eval rfl).trans k28_47) ?_
 refine wp_skip ?_
 refine hK19 _ _ ?_
 have limR_l := OwnN.lim q126'
 have limR_x := OwnN.lim q127'
 have limR_y := OwnN.lim q128'
 have kz_0 := q132'.1
 have kz_1 := q133'.1
 refine wp_region_seq ?_
 show wpOps _ _ _ (List.range' 0 15) _ _
 refine tail_value (o := _) rfl rfl rfl (v := .slice (some ⟨ga11, 0, none⟩) (1) (ca11)) (by simp [go_sem, frv 63 k28_2]) ?_
 generalize hg29 : upd g28 48 (.slice (some ⟨ga11, 0, none⟩) (1) (ca11)) = g29
 have k29_1 := ku hg29 1 k28_1
 have k29_5 := ku hg29 5 k28_5
 have k29_49 := ku hg29 49 k28_49
 have k29_50 := ku hg29 50 k28_50
 have k29_51 := ku hg29 51 k28_51
 have k29_52 := ku hg29 52 k28_52
 have k29_53 := ku hg29 53 k28_53
 have k29_54 := ku hg29 54 k28_54
 have k29_55 := ku hg29 55 k28_55
 have k29_56 := ku hg29 56 k28_56
 have k29_57 := ku hg29 57 k28_57
 have k29_58 := ku hg29 58 k28_58
 have k29_59 := ku hg29 59 k28_59
 have k29_2 := ku hg29 2 k28_2
 have k29_3 := ku hg29 3 k28_3
 have k29_4 := ku hg29 4 k28_4
 have k29_6 := ku hg29 6 k28_6
 have k29_13 := ku hg29 13 k28_13
 have k29_21 := ku hg29 21 k28_21
 have k29_7 := ku hg29 7 k28_7
 have k29_8 := ku hg29 8 k28_8
 have k29_9 := ku hg29 9 k28_9
 have k29_11 := ku hg29 11 k28_11
 have k29_47 := ku hg29 47 k28_47
 have k29_48 := kt hg29 48 (upd_same _ _ _)
 refine tail_value (o := _) rfl rfl rfl (v := .agg #[.int .i64 tb1, .slice (some ⟨g87', 0, none⟩) (4) (c90'), .int .i64 hh1, .slice (some ⟨g88', 0, none⟩) (2) (c91'), .slice (some ⟨g89', 0, none⟩) (2) (c92'), .int .i64 sl1, .bool false]) (by simp [go_sem, frv 63 k29_7, cl b28_1 0, cl b28_1 1, cl b28_1 2, cl b28_1 3, cl b28_1 4, cl b28_1 5, cl b28_1 6]) ?_
 generalize hg30 : upd g29 49 (.agg #[.int .i64 tb1, .slice (some ⟨g87', 0, none⟩) (4) (c90'), .int .i64 hh1, .slice (some ⟨g88', 0, none⟩) (2) (c91'), .slice (some ⟨g89', 0, none⟩) (2) (c92'), .int .i64 sl1, .bool false]) = g30
 have k30_1 := ku hg30 1 k29_1
 have k30_5 := ku hg30 5 k29_5
 have k30_50 := ku hg30 50 k29_50
 have k30_51 := ku hg30 51 k29_51
 have k30_52 := ku hg30 52 k29_52
 have k30_53 := ku hg30 53 k29_53
 have k30_54 := ku hg30 54 k29_54
 have k30_55 := ku hg30 55 k29_55
 have k30_56 := ku hg30 56 k29_56
 have k30_57 := ku hg30 57 k29_57
 have k30_58 := ku hg30 58 k29_58
 have k30_59 := ku hg30 59 k29_59
 have k30_2 := ku hg30 2 k29_2
 have k30_3 := ku hg30 3 k29_3
 have k30_4 := ku hg30 4 k29_4
 have k30_6 := ku hg30 6 k29_6
 have k30_13 := ku hg30 13 k29_13
 have k30_21 := ku hg30 21 k29_21
 have k30_7 := ku hg30 7 k29_7
 have k30_8 := ku hg30 8 k29_8
 have k30_9 := ku hg30 9 k29_9
 have k30_11 := ku hg30 11 k29_11
 have k30_47 := ku hg30 47 k29_47
 have k30_48 := ku hg30 48 k29_48
 have k30_49 := kt hg30 49 (upd_same _ _ _)
 refine tail_value2 (o := _) rfl rfl rfl (v := .slice (some ⟨W28.heap.size, 0, none⟩) 1 1) (W' := W28.alloc (.cells #[.int .i64 tb1, .slice (some ⟨g87', 0, none⟩) (4) (c90'), .int .i64 hh1, .slice (some ⟨g88', 0, none⟩) (2) (c91'), .slice (some ⟨g89', 0, none⟩) (2) (c92'), .int .i64 sl1, .bool false] 57 (0, 0))) (by simp [go_sem, frv 63 k30_49]) ?_
 obtain ⟨W31, hw31⟩ : ∃ Y, W28.alloc (.cells #[.int .i64 tb1, .slice (some ⟨g87', 0, none⟩) (4) (c90'), .int .i64 hh1, .slice (some ⟨g88', 0, none⟩) (2) (c91'), .slice (some ⟨g89', 0, none⟩) (2) (c92'), .int .i64 sl1, .bool false] 57 (0, 0)) = Y := ⟨_, rfl⟩
 rw [hw31]
 have hb31 : Below W28.heap.size W28 W31 := hw31 ▸ balloc1 _ _
 have bn31 : W31.heap[W28.heap.size]? = some (.cells #[.int .i64 tb1, .slice (some ⟨g87', 0, none⟩) (4) (c90'), .int .i64 hh1, .slice (some ⟨g88', 0, none⟩) (2) (c91'), .slice (some ⟨g89', 0, none⟩) (2) (c92'), .int .i64 sl1, .bool false] 57 (0, 0)) := hw31 ▸ blk_new rfl
 obtain ⟨nb31, hnb31⟩ : ∃ b, W28.heap.size = b := ⟨_, rfl⟩
 rw [hnb31] at bn31
 rw [hnb31]
 have fB31 := below_trans fB28 hb31
 have z31 := hb31.size
 have b31_0 := blk_below b28_0 hb31
 have b31_1 := blk_below b28_1 hb31
 have q134' := (q126'.below hb31)
 have q135' := (q127'.below hb31)
 have q136' := (q128'.below hb31)
 have q137' := (q129'.below hb31)
 have q138' := (q130'.below hb31)
 have q139' := (q131'.below hb31)
 have q140' := (q132'.below hb31)
 have q141' := (q133'.below hb31)
 generalize hg31 : upd g30 50 (.slice (some ⟨nb31, 0, none⟩) (1) (1)) = g31
 have k31_1 := ku hg31 1 k30_1
 have k31_5 := ku hg31 5 k30_5
 have k31_51 := ku hg31 51 k30_51
 have k31_52 := ku hg31 52 k30_52
 have k31_53 := ku hg31 53 k30_53
 have k31_54 := ku hg31 54 k30_54
 have k31_55 := ku hg31 55 k30_55
 have k31_56 := ku hg31 56 k30_56
 have k31_57 := ku hg31 57 k30_57
 have k31_58 := ku hg31 58 k30_58
 have k31_59 := ku hg31 59 k30_59
 have k31_2 := ku hg31 2 k30_2
 have k31_3 := ku hg31 3 k30_3
 have k31_4 := ku hg31 4 k30_4
 have k31_6 := ku hg31 6 k30_6
 have k31_13 := ku hg31 13 k30_13
 have k31_21 := ku hg31 21 k30_21
 have k31_7 := ku hg31 7 k30_7
 have k31_8 := ku hg31 8 k30_8
 have k31_9 := ku hg31 9 k30_9
 have k31_11 := ku hg31 11 k30_11
 have k31_47 := ku hg31 47 k30_47
 have k31_48 := ku hg31 48 k30_48
 have k31_49 := ku hg31 49 k30_49
 have k31_50 := kt hg31 50 (upd_same _ _ _)
 obtain ⟨ga32, ca32, W32, ra32, ow32, ot32, z32, gg32, fB32⟩ := growN_tail 28 28 57 7 104 _ (by kernel_rfl) infoB rfl (([] ++ [.int .i64 tb0, .slice (some ⟨g7', 0, none⟩) (4) (c10'), .int .i64 hh0, .slice (some ⟨g8', 0, none⟩) (2) (c11'), .slice (some ⟨g9', 0, none⟩) (2) (c12'), .int .i64 sl0, .bool false]) ++ [.int .i64 tb1, .slice (some ⟨g87', 0, none⟩) (4) (c90'), .int .i64 hh1, .slice (some ⟨g88', 0, none⟩) (2) (c91'), .slice (some ⟨g89', 0, none⟩) (2) (c92'), .int .i64 sl1, .bool false]) 2 (off := 0) (k := 1) (c' := 1) [.int .i64 tb1, .slice (some ⟨g87', 0, none⟩) (4) (c90'), .int .i64 hh1, .slice (some ⟨g88', 0, none⟩) (2) (c91'), .slice (some ⟨g89', 0, none⟩) (2) (c92'), .int .i64 sl1, .bool false] fB31 q134' rfl rfl rfl rfl (cells_at bn31) (by omega)
 refine tail_value2 (o := _) rfl rfl rfl (run_appendOp (fr_ev k31_48) (fr_ev k31_50) ra32) ?_
 have lh32 := OwnN.lim q134'
 have b32_0 := ot32 _ _ (ownN_ne q134' b31_0) b31_0
 have b32_1 := ot32 _ _ (fun g e => by have := limQ_l g e; omega) b31_1
 have on32 : OwnN 57 7 w.heap.size 2 (([] ++ [.int .i64 tb0, .slice (some ⟨g7', 0, none⟩) (4) (c10'), .int .i64 hh0, .slice (some ⟨g8', 0, none⟩) (2) (c11'), .slice (some ⟨g9', 0, none⟩) (2) (c12'), .int .i64 sl0, .bool false]) ++ [.int .i64 tb1, .slice (some ⟨g87', 0, none⟩) (4) (c90'), .int .i64 hh1, .slice (some ⟨g88', 0, none⟩) (2) (c91'), .slice (some ⟨g89', 0, none⟩) (2) (c92'), .int .i64 sl1, .bool false]) (some ⟨ga32, 0, none⟩) ca32 W32 := .inr ⟨_, rfl, ow32⟩
 have q142' := OwnN.otherN q135' q134' ot32 z32
 have q143' := OwnN.otherN q136' q134' ot32 z32
 have q144' := KeepI.grow q140' ov11_0 ot32 z32
 have q145' := KeepI.grow q141' ou1_l' ot32 z32
 have ov32_0 := Out.grow ov11_0 gg32 (by omega)
 have ov32_1 := Out.grow ou1_l' gg32 (by omega)
 have kz_0 := q144'.1
 have kz_1 := q145'.1
 have limR_l := OwnN.lim on32
 generalize hg32 : upd g31 51 (.slice (some ⟨ga32, 0, none⟩) (2) (ca32)) = g32
 have k32_1 := ku hg32 1 k31_1
 have k32_5 := ku hg32 5 k31_5
 have k32_52 := ku hg32 52 k31_52
 have k32_53 := ku hg32 53 k31_53
 have k32_54 := ku hg32 54 k31_54
 have k32_55 := ku hg32 55 k31_55
 have k32_56 := ku hg32 56 k31_56
 have k32_57 := ku hg32 57 k31_57
 have k32_58 := ku hg32 58 k31_58
 have k32_59 := ku hg32 59 k31_59
 have k32_2 := ku hg32 2 k31_2
 have k32_3 := ku hg32 3 k31_3
 have k32_4 := ku hg32 4 k31_4
 have k32_6 := ku hg32 6 k31_6
 have k32_13 := ku hg32 13 k31_13
 have k32_21 := ku hg32 21 k31_21
 have k32_7 := ku hg32 7 k31_7
 have k32_8 := ku hg32 8 k31_8
 have k32_9 := ku hg32 9 k31_9
 have k32_11 := ku hg32 11 k31_11
 have k32_47 := ku hg32 47 k31_47
 have k32_48 := ku hg32 48 k31_48
 have k32_49 := ku hg32 49 k31_49
 have k32_50 := ku hg32 50 k31_50
 have k32_51 := kt hg32 51 (upd_same _ _ _)
 refine tail_value (o := _) rfl rfl rfl (v := .slice (some ⟨ga15, 0, none⟩) (1) (ca15)) (by simp [go_sem, frv 63 k32_3]) ?_
 generalize hg33 : upd g32 52 (.slice (some ⟨ga15, 0, none⟩) (1) (ca15)) = g33
 have k33_1 := ku hg33 1 k32_1
 have k33_5 := ku hg33 5 k32_5
 have k33_53 := ku hg33 53 k32_53
 have k33_54 := ku hg33 54 k32_54
 have k33_55 := ku hg33 55 k32_55
 have k33_56 := ku hg33 56 k32_56
 have k33_57 := ku hg33 57 k32_57
 have k33_58 := ku hg33 58 k32_58
 have k33_59 := ku hg33 59 k32_59
 have k33_2 := ku hg33 2 k32_2
 have k33_3 := ku hg33 3 k32_3
 have k33_4 := ku hg33 4 k32_4
 have k33_6 := ku hg33 6 k32_6
 have k33_13 := ku hg33 13 k32_13
 have k33_21 := ku hg33 21 k32_21
 have k33_7 := ku hg33 7 k32_7
 have k33_8 := ku hg33 8 k32_8
 have k33_9 := ku hg33 9 k32_9
 have k33_11 := ku hg33 11 k32_11
 have k33_47 := ku hg33 47 k32_47
 have k33_48 := ku hg33 48 k32_48
 have k33_49 := ku hg33 49 k32_49
 have k33_50 := ku hg33 50 k32_50
 have k33_51 := ku hg33 51 k32_51
 have k33_52 := kt hg33 52 (upd_same _ _ _)
 refine tail_value (o := _) rfl rfl rfl (v := .int .i64 ac1) (by simp [go_sem, frv 63 k33_8]) ?_
 generalize hg34 : upd g33 53 (.int .i64 ac1) = g34
 have k34_1 := ku hg34 1 k33_1
 have k34_5 := ku hg34 5 k33_5
 have k34_54 := ku hg34 54 k33_54
 have k34_55 := ku hg34 55 k33_55
 have k34_56 := ku hg34 56 k33_56
 have k34_57 := ku hg34 57 k33_57
 have k34_58 := ku hg34 58 k33_58
 have k34_59 := ku hg34 59 k33_59
 have k34_2 := ku hg34 2 k33_2
 have k34_3 := ku hg34 3 k33_3
 have k34_4 := ku hg34 4 k33_4
 have k34_6 := ku hg34 6 k33_6
 have k34_13 := ku hg34 13 k33_13
 have k34_21 := ku hg34 21 k33_21
 have k34_7 := ku hg34 7 k33_7
 have k34_8 := ku hg34 8 k33_8
 have k34_9 := ku hg34 9 k33_9
 have k34_11 := ku hg34 11 k33_11
 have k34_47 := ku hg34 47 k33_47
 have k34_48 := ku hg34 48 k33_48
 have k34_49 := ku hg34 49 k33_49
 have k34_50 := ku hg34 50 k33_50
 have k34_51 := ku hg34 51 k33_51
 have k34_52 := ku hg34 52 k33_52
 have k34_53 := kt hg34 53 (upd_same _ _ _)
 refine tail_value2 (o := _) rfl rfl rfl (v := .slice (some ⟨W32.heap.size, 0, none⟩) 1 1) (W' := W32.alloc (.cells #[.int .i64 ac1] 3 (0, 0))) (by simp [go_sem, frv 63 k34_53]) ?_
 obtain ⟨W35, hw35⟩ : ∃ Y, W32.alloc (.cells #[.int .i64 ac1] 3 (0, 0)) = Y := ⟨_, rfl⟩
 rw [hw35]
 have hb35 : Below W32.heap.size W32 W35 := hw35 ▸ balloc1 _ _
 have bn35 : W35.heap[W32.heap.size]? = some (.cells #[.int .i64 ac1] 3 (0, 0)) := hw35 ▸ blk_new rfl
 obtain ⟨nb35, hnb35⟩ : ∃ b, W32.heap.size = b := ⟨_, rfl⟩
 rw [hnb35] at bn35
 rw [hnb35]
 have fB35 := below_trans fB32 hb35
 have z35 := hb35.size
 have b35_0 := blk_below b32_0 hb35
 have b35_1 := blk_below b32_1 hb35
 have q146' := (q142'.below hb35)
 have q147' := (q143'.below hb35)
 have q148' := (q144'.below hb35)
 have q149' := (q145'.below hb35)
 have q150' := (on32.below hb35)
 generalize hg35 : upd g34 54 (.slice (some ⟨nb35, 0, none⟩) (1) (1)) = g35
 have k35_1 := ku hg35 1 k34_1
 have k35_5 := ku hg35 5 k34_5
 have k35_55 := ku hg35 55 k34_55
 have k35_56 := ku hg35 56 k34_56
 have k35_57 := ku hg35 57 k34_57
 have k35_58 := ku hg35 58 k34_58
 have k35_59 := ku hg35 59 k34_59
 have k35_2 := ku hg35 2 k34_2
 have k35_3 := ku hg35 3 k34_3
 have k35_4 := ku hg35 4 k34_4
 have k35_6 := ku hg35 6 k34_6
 have k35_13 := ku hg35 13 k34_13
 have k35_21 := ku hg35 21 k34_21
 have k35_7 := ku hg35 7 k34_7
 have k35_8 := ku hg35 8 k34_8
 have k35_9 := ku hg35 9 k34_9
 have k35_11 := ku hg35 11 k34_11
 have k35_47 := ku hg35 47 k34_47
 have k35_48 := ku hg35 48 k34_48
 have k35_49 := ku hg35 49 k34_49
 have k35_50 := ku hg35 50 k34_50
 have k35_51 := ku hg35 51 k34_51
 have k35_52 := ku hg35 52 k34_52
 have k35_53 := ku hg35 53 k34_53
 have k35_54 := kt hg35 54 (upd_same _ _ _)
 obtain ⟨ga36, ca36, W36, ra36, ow36, ot36, z36, gg36, fB36⟩ := growN_tail 29 29 3 1 8 _ (by kernel_rfl) infoI rfl (iis [ac0, ac1]) 2 (off := 0) (k := 1) (c' := 1) [.int .i64 ac1] fB35 q146' rfl rfl rfl rfl (cells_at bn35) (by omega)
 refine tail_value2 (o := _) rfl rfl rfl (run_appendOp (fr_ev k35_52) (fr_ev k35_54) ra36) ?_
 have lh36 := OwnN.lim q146'
 have b36_0 := ot36 _ _ (ownN_ne q146' b35_0) b35_0
 have b36_1 := ot36 _ _ (ownN_ne q146' b35_1) b35_1
 have on36 : OwnN 3 1 w.heap.size 2 (iis [ac0, ac1]) (some ⟨ga36, 0, none⟩) ca36 W36 := .inr ⟨_, rfl, ow36⟩
 have q151' := OwnN.otherA q147' ap19 ot36 z36
 have q152' := KeepI.grow q148' ov15_0 ot36 z36
 have q153' := KeepI.grow q149' ou1_x' ot36 z36
 have q154' := OwnN.otherN q150' q146' ot36 z36
 have ap36 : Apart (some ⟨ga36, 0, none⟩) (some ⟨ga19, 0, none⟩) := (ap19).grow gg36 (fun k e => (OwnN.lim q147' k e).2)
 have ov36_0 := Out.grow ov15_0 gg36 (by omega)
 have ov36_1 := Out.grow ou1_x' gg36 (by omega)
 have kz_0 := q152'.1
 have kz_1 := q153'.1
 have limR_x := OwnN.lim on36
 generalize hg36 : upd g35 55 (.slice (some ⟨ga36, 0, none⟩) (2) (ca36)) = g36
 have k36_1 := ku hg36 1 k35_1
 have k36_5 := ku hg36 5 k35_5
 have k36_56 := ku hg36 56 k35_56
 have k36_57 := ku hg36 57 k35_57
 have k36_58 := ku hg36 58 k35_58
 have k36_59 := ku hg36 59 k35_59
 have k36_2 := ku hg36 2 k35_2
 have k36_3 := ku hg36 3 k35_3
 have k36_4 := ku hg36 4 k35_4
 have k36_6 := ku hg36 6 k35_6
 have k36_13 := ku hg36 13 k35_13
 have k36_21 := ku hg36 21 k35_21
 have k36_7 := ku hg36 7 k35_7
 have k36_8 := ku hg36 8 k35_8
 have k36_9 := ku hg36 9 k35_9
 have k36_11 := ku hg36 11 k35_11
 have k36_47 := ku hg36 47 k35_47
 have k36_48 := ku hg36 48 k35_48
 have k36_49 := ku hg36 49 k35_49
 have k36_50 := ku hg36 50 k35_50
 have k36_51 := ku hg36 51 k35_51
 have k36_52 := ku hg36 52 k35_52
 have k36_53 := ku hg36 53 k35_53
 have k36_54 := ku hg36 54 k35_54
 have k36_55 := kt hg36 55 (upd_same _ _ _)
 refine tail_value (o := _) rfl rfl rfl (v := .slice (some ⟨ga19, 0, none⟩) (1) (ca19)) (by simp [go_sem, frv 63 k36_4]) ?_
 generalize hg37 : upd g36 56 (.slice (some ⟨ga19, 0, none⟩) (1) (ca19)) = g37
 have k37_1 := ku hg37 1 k36_1
 have k37_5 := ku hg37 5 k36_5
 have k37_57 := ku hg37 57 k36_57
 have k37_58 := ku hg37 58 k36_58
 have k37_59 := ku hg37 59 k36_59
 have k37_2 := ku hg37 2 k36_2
 have k37_3 := ku hg37 3 k36_3
 have k37_4 := ku hg37 4 k36_4
 have k37_6 := ku hg37 6 k36_6
 have k37_13 := ku hg37 13 k36_13
 have k37_21 := ku hg37 21 k36_21
 have k37_7 := ku hg37 7 k36_7
 have k37_8 := ku hg37 8 k36_8
 have k37_9 := ku hg37 9 k36_9
 have k37_11 := ku hg37 11 k36_11
 have k37_47 := ku hg37 47 k36_47
 have k37_48 := ku hg37 48 k36_48
 have k37_49 := ku hg37 49 k36_49
 have k37_50 := ku hg37 50 k36_50
 have k37_51 := ku hg37 51 k36_51
 have k37_52 := ku hg37 52 k36_52
 have k37_53 := ku hg37 53 k36_53
 have k37_54 := ku hg37 54 k36_54
 have k37_55 := ku hg37 55 k36_55
 have k37_56 := kt hg37 56 (upd_same _ _ _)
 refine tail_value (o := _) rfl rfl rfl (v := .int .i64 al1) (by simp [go_sem, frv 63 k37_9]) ?_
 generalize hg38 : upd g37 57 (.int .i64 al1) = g38
 have k38_1 := ku hg38 1 k37_1
 have k38_5 := ku hg38 5 k37_5
 have k38_58 := ku hg38 58 k37_58
 have k38_59 := ku hg38 59 k37_59
 have k38_2 := ku hg38 2 k37_2
 have k38_3 := ku hg38 3 k37_3
 have k38_4 := ku hg38 4 k37_4
 have k38_6 := ku hg38 6 k37_6
 have k38_13 := ku hg38 13 k37_13
 have k38_21 := ku hg38 21 k37_21
 have k38_7 := ku hg38 7 k37_7
 have k38_8 := ku hg38 8 k37_8
 have k38_9 := ku hg38 9 k37_9
 have k38_11 := ku hg38 11 k37_11
 have k38_47 := ku hg38 47 k37_47
 have k38_48 := ku hg38 48 k37_48
 have k38_49 := ku hg38 49 k37_49
 have k38_50 := ku hg38 50 k37_50
 have k38_51 := ku hg38 51 k37_51
 have k38_52 := ku hg38 52 k37_52
 have k38_53 := ku hg38 53 k37_53
 have k38_54 := ku hg38 54 k37_54
 have k38_55 := ku hg38 55 k37_55
 have k38_56 := ku hg38 56 k37_56
 have k38_57 := kt hg38 57 (upd_same _ _ _)
 refine tail_value2 (o := _) rfl rfl rfl (v := .slice (some ⟨W36.heap.size, 0, none⟩) 1 1) (W' := W36.alloc (.cells #[.int .i64 al1] 3 (0, 0))) (by simp [go_sem, frv 63 k38_57]) ?_
 obtain ⟨W39, hw39⟩ : ∃ Y, W36.alloc (.cells #[.int .i64 al1] 3 (0, 0)) = Y := ⟨_, rfl⟩
 rw [hw39]
 have hb39 : Below W36.heap.size W36 W39 := hw39 ▸ balloc1 _ _
 have bn39 : W39.heap[W36.heap.size]? = some (.cells #[.int .i64 al1] 3 (0, 0)) := hw39 ▸ blk_new rfl
 obtain ⟨nb39, hnb39⟩ : ∃ b, W36.heap.size = b := ⟨_, rfl⟩
 rw [hnb39] at bn39
 rw [hnb39]
 have fB39 := below_trans fB36 hb39
 have z39 := hb39.size
 have b39_0 := blk_below b36_0 hb39
 have b39_1 := blk_below b36_1 hb39
 have q155' := (q151'.below hb39)
 have q156' := (q152'.below hb39)
 have q157' := (q153'.below hb39)
 have q158' := (q154'.below hb39)
 have q159' := (on36.below hb39)
 generalize hg39 : upd g38 58 (.slice (some ⟨nb39, 0, none⟩) (1) (1)) = g39
 have k39_1 := ku hg39 1 k38_1
 have k39_5 := ku hg39 5 k38_5
 have k39_59 := ku hg39 59 k38_59
 have k39_2 := ku hg39 2 k38_2
 have k39_3 := ku hg39 3 k38_3
 have k39_4 := ku hg39 4 k38_4
 have k39_6 := ku hg39 6 k38_6
 have k39_13 := ku hg39 13 k38_13
 have k39_21 := ku hg39 21 k38_21
 have k39_7 := ku hg39 7 k38_7
 have k39_8 := ku hg39 8 k38_8
 have k39_9 := ku hg39 9 k38_9
 have k39_11 := ku hg39 11 k38_11
 have k39_47 := ku hg39 47 k38_47
 have k39_48 := ku hg39 48 k38_48
 have k39_49 := ku hg39 49 k38_49
 have k39_50 := ku hg39 50 k38_50
 have k39_51 := ku hg39 51 k38_51
 have k39_52 := ku hg39 52 k38_52
 have k39_53 := ku hg39 53 k38_53
 have k39_54 := ku hg39 54 k38_54
 have k39_55 := ku hg39 55 k38_55
 have k39_56 := ku hg39 56 k38_56
 have k39_57 := ku hg39 57 k38_57
 have k39_58 := kt hg39 58 (upd_same _ _ _)
 obtain ⟨ga40, ca40, W40, ra40, ow40, ot40, z40, gg40, fB40⟩ := growN_tail 29 29 3 1 8 _ (by kernel_rfl) infoI rfl (iis [al0, al1]) 2 (off := 0) (k := 1) (c' := 1) [.int .i64 al1] fB39 q155' rfl rfl rfl rfl (cells_at bn39) (by omega)
 refine tail_value2 (o := _) rfl rfl rfl (run_appendOp (fr_ev k39_56) (fr_ev k39_58) ra40) ?_
 have lh40 := OwnN.lim q155'
 have b40_0 := ot40 _ _ (ownN_ne q155' b39_0) b39_0
 have b40_1 := ot40 _ _ (ownN_ne q155' b39_1) b39_1
 have on40 : OwnN 3 1 w.heap.size 2 (iis [al0, al1]) (some ⟨ga40, 0, none⟩) ca40 W40 := .inr ⟨_, rfl, ow40⟩
 have q160' := KeepI.grow q156' ov19_0 ot40 z40
 have q161' := KeepI.grow q157' ou1_y' ot40 z40
 have q162' := OwnN.otherN q158' q155' ot40 z40
 have q163' := OwnN.otherA q159' (ap36).symm ot40 z40
 have ap40 : Apart (some ⟨ga36, 0, none⟩) (some ⟨ga40, 0, none⟩) := ((ap36).symm.grow gg40 (fun k e => (OwnN.lim q159' k e).2)).symm
 have ov40_0 := Out.grow ov19_0 gg40 (by omega)
 have ov40_1 := Out.grow ou1_y' gg40 (by omega)
 have kz_0 := q160'.1
 have kz_1 := q161'.1
 have limR_y := OwnN.lim on40
 generalize hg40 : upd g39 59 (.slice (some ⟨ga40, 0, none⟩) (2) (ca40)) = g40
 have k40_1 := ku hg40 1 k39_1
 have k40_5 := ku hg40 5 k39_5
 have k40_2 := ku hg40 2 k39_2
 have k40_3 := ku hg40 3 k39_3
 have k40_4 := ku hg40 4 k39_4
 have k40_6 := ku hg40 6 k39_6
 have k40_13 := ku hg40 13 k39_13
 have k40_21 := ku hg40 21 k39_21
 have k40_7 := ku hg40 7 k39_7
 have k40_8 := ku hg40 8 k39_8
 have k40_9 := ku hg40 9 k39_9
 have k40_11 := ku hg40 11 k39_11
 have k40_47 := ku hg40 47 k39_47
 have k40_48 := ku hg40 48 k39_48
 have k40_49 := ku hg40 49 k39_49
 have k40_50 := ku hg40 50 k39_50
 have k40_51 := ku hg40 51 k39_51
 have k40_52 := ku hg40 52 k39_52
 have k40_53 := ku hg40 53 k39_53
 have k40_54 := ku hg40 54 k39_54
 have k40_55 := ku hg40 55 k39_55
 have k40_56 := ku hg40 56 k39_56
 have k40_57 := ku hg40 57 k39_57
 have k40_58 := ku hg40 58 k39_58
 have k40_59 := kt hg40 59 (upd_same _ _ _)
 refine tail_value (o := _) rfl rfl rfl (v := .slice (some ⟨ga32, 0, none⟩) (2) (ca32)) (by simp [go_sem, frv 63 k40_51]) ?_
 generalize hg41 : upd g40 2 (.slice (some ⟨ga32, 0, none⟩) (2) (ca32)) = g41
 have k41_1 := ku hg41 1 k40_1
 have k41_5 := ku hg41 5 k40_5
 have k41_3 := ku hg41 3 k40_3
 have k41_4 := ku hg41 4 k40_4
 have k41_6 := ku hg41 6 k40_6
 have k41_13 := ku hg41 13 k40_13
 have k41_21 := ku hg41 21 k40_21
 have k41_7 := ku hg41 7 k40_7
 have k41_8 := ku hg41 8 k40_8
 have k41_9 := ku hg41 9 k40_9
 have k41_11 := ku hg41 11 k40_11
 have k41_47 := ku hg41 47 k40_47
 have k41_48 := ku hg41 48 k40_48
 have k41_49 := ku hg41 49 k40_49
 have k41_50 := ku hg41 50 k40_50
 have k41_51 := ku hg41 51 k40_51
 have k41_52 := ku hg41 52 k40_52
 have k41_53 := ku hg41 53 k40_53
 have k41_54 := ku hg41 54 k40_54
 have k41_55 := ku hg41 55 k40_55
 have k41_56 := ku hg41 56 k40_56
 have k41_57 := ku hg41 57 k40_57
 have k41_58 := ku hg41 58 k40_58
 have k41_59 := ku hg41 59 k40_59
 have k41_2 := kt hg41 2 (upd_same _ _ _)
 refine tail_value (o := _) rfl rfl rfl (v := .slice (some ⟨ga36, 0, none⟩) (2) (ca36)) (by simp [go_sem, frv 63 k41_55]) ?_
 generalize hg42 : upd g41 3 (.slice (some ⟨ga36, 0, none⟩) (2) (ca36)) = g42
 have k42_1 := ku hg42 1 k41_1
 have k42_5 := ku hg42 5 k41_5
 have k42_4 := ku hg42 4 k41_4
 have k42_6 := ku hg42 6 k41_6
 have k42_13 := ku hg42 13 k41_13
 have k42_21 := ku hg42 21 k41_21
 have k42_7 := ku hg42 7 k41_7
 have k42_8 := ku hg42 8 k41_8
 have k42_9 := ku hg42 9 k41_9
 have k42_11 := ku hg42 11 k41_11
 have k42_47 := ku hg42 47 k41_47
 have k42_48 := ku hg42 48 k41_48
 have k42_49 := ku hg42 49 k41_49
 have k42_50 := ku hg42 50 k41_50
 have k42_51 := ku hg42 51 k41_51
 have k42_52 := ku hg42 52 k41_52
 have k42_53 := ku hg42 53 k41_53
 have k42_54 := ku hg42 54 k41_54
 have k42_55 := ku hg42 55 k41_55
 have k42_56 := ku hg42 56 k41_56
 have k42_57 := ku hg42 57 k41_57
 have k42_58 := ku hg42 58 k41_58
 have k42_59 := ku hg42 59 k41_59
 have k42_2 := ku hg42 2 k41_2
 have k42_3 := kt hg42 3 (upd_same _ _ _)
 refine tail_value (o := _) rfl rfl rfl (v := .slice (some ⟨ga40, 0, none⟩) (2) (ca40)) (by simp [go_sem, frv 63 k42_59]) ?_
 generalize hg43 : upd g42 4 (.slice (some ⟨ga40, 0, none⟩) (2) (ca40)) = g43
 have k43_1 := ku hg43 1 k42_1
 have k43_5 := ku hg43 5 k42_5
 have k43_6 := ku hg43 6 k42_6
 have k43_13 := ku hg43 13 k42_13
 have k43_21 := ku hg43 21 k42_21
 have k43_7 := ku hg43 7 k42_7
 have k43_8 := ku hg43 8 k42_8
 have k43_9 := ku hg43 9 k42_9
 have k43_11 := ku hg43 11 k42_11
 have k43_47 := ku hg43 47 k42_47
 have k43_48 := ku hg43 48 k42_48
 have k43_49 := ku hg43 49 k42_49
 have k43_50 := ku hg43 50 k42_50
 have k43_51 := ku hg43 51 k42_51
 have k43_52 := ku hg43 52 k42_52
 have k43_53 := ku hg43 53 k42_53
 have k43_54 := ku hg43 54 k42_54
 have k43_55 := ku hg43 55 k42_55
 have k43_56 := ku hg43 56 k42_56
 have k43_57 := ku hg43 57 k42_57
 have k43_58 := ku hg43 58 k42_58
 have k43_59 := ku hg43 59 k42_59
 have k43_2 := ku hg43 2 k42_2
 have k43_3 := ku hg43 3 k42_3
 have k43_4 := kt hg43 4 (upd_same _ _ _)
 refine wpOps_end ?_
 refine inBlock_normal ?_
 refine hK16 _ _ ?_
 refine region_dk 3 [(14, 0), (15, 1), (6, 2)] [[], [0], [0, 1]] (rel [is (.int .i64 1),
   is (.int .i64 2),
   is (.int .i64 2)])
  ⟨is_k, is_k, is_k, trivial⟩
  ⟨fun f s W i j l m n a => opv rfl rfl (by simp [go_sem, a.e 6 ((m 2 6 rfl rfl).trans k43_6)]) rfl,
  fun f s W i j l m n a => opv rfl rfl (by simp [go_sem, a.e 14 (j 0 rfl), IntWalk.i64_in (2) (by omega)]) rfl,
  fun f s W i j l m n a => opv rfl rfl (by simp [go_sem, a.e 15 (j 1 rfl)]) rfl, trivial⟩ ?_
 intro f44 s44 W44 hB44 g44 hg44
 have fB44 := hB44.f fB40
 have z44 := hB44.below.size
 have b44_0 := hB44.b b40_0
 have b44_1 := hB44.b b40_1
 have q164' := (q160'.below hB44.below)
 have q165' := (q161'.below hB44.below)
 have q166' := (q162'.below hB44.below)
 have q167' := (q163'.below hB44.below)
 have q168' := (on40.below hB44.below)
 refine wpOps_end ?_
 have k44_1 := kt hg44 1 k43_1
 have k44_5 := kt hg44 5 k43_5
 have k44_13 := kt hg44 13 k43_13
 have k44_21 := kt hg44 21 k43_21
 have k44_7 := kt hg44 7 k43_7
 have k44_8 := kt hg44 8 k43_8
 have k44_9 := kt hg44 9 k43_9
 have k44_11 := kt hg44 11 k43_11
 have k44_47 := kt hg44 47 k43_47
 have k44_48 := kt hg44 48 k43_48
 have k44_49 := kt hg44 49 k43_49
 have k44_50 := kt hg44 50 k43_50
 have k44_51 := kt hg44 51 k43_51
 have k44_52 := kt hg44 52 k43_52
 have k44_53 := kt hg44 53 k43_53
 have k44_54 := kt hg44 54 k43_54
 have k44_55 := kt hg44 55 k43_55
 have k44_56 := kt hg44 56 k43_56
 have k44_57 := kt hg44 57 k43_57
 have k44_58 := kt hg44 58 k43_58
 have k44_59 := kt hg44 59 k43_59
 have k44_2 := kt hg44 2 k43_2
 have k44_3 := kt hg44 3 k43_3
 have k44_4 := kt hg44 4 k43_4
 have k44_6 := kt hg44 6 (hB44.is 2)
 refine then_normal ?_
 rw [rounds_succ]
 refine wp_seq_k fun K22 hK22 => ?_
 refine wp_seq_k fun K23 hK23 => ?_
 refine region_dk 2 [(12, 0), (13, 1)] [[], [0]] (rel [is (.int .i64 2),
   is (.bool true)])
  ⟨is_k, is_k, trivial⟩
  ⟨fun f s W i j l m n a => opv rfl rfl (by simp [go_sem, a.e 6 k44_6]) rfl,
  fun f s W i j l m n a => opv rfl rfl (by simp [go_sem, a.e 12 (j 0 rfl)]) rfl, trivial⟩ ?_
 intro f45 s45 W45 hB45 g45 hg45
 have fB45 := hB45.f fB44
 have z45 := hB45.below.size
 have b45_0 := hB45.b b44_0
 have b45_1 := hB45.b b44_1
 have q169' := (q164'.below hB45.below)
 have q170' := (q165'.below hB45.below)
 have q171' := (q166'.below hB45.below)
 have q172' := (q167'.below hB45.below)
 have q173' := (q168'.below hB45.below)
 refine hK23 _ _ ?_
 have k45_1 := kt hg45 1 k44_1
 have k45_5 := kt hg45 5 k44_5
 have k45_21 := kt hg45 21 k44_21
 have k45_7 := kt hg45 7 k44_7
 have k45_8 := kt hg45 8 k44_8
 have k45_9 := kt hg45 9 k44_9
 have k45_11 := kt hg45 11 k44_11
 have k45_47 := kt hg45 47 k44_47
 have k45_48 := kt hg45 48 k44_48
 have k45_49 := kt hg45 49 k44_49
 have k45_50 := kt hg45 50 k44_50
 have k45_51 := kt hg45 51 k44_51
 have k45_52 := kt hg45 52 k44_52
 have k45_53 := kt hg45 53 k44_53
 have k45_54 := kt hg45 54 k44_54
 have k45_55 := kt hg45 55 k44_55
 have k45_56 := kt hg45 56 k44_56
 have k45_57 := kt hg45 57 k44_57
 have k45_58 := kt hg45 58 k44_58
 have k45_59 := kt hg45 59 k44_59
 have k45_2 := kt hg45 2 k44_2
 have k45_3 := kt hg45 3 k44_3
 have k45_4 := kt hg45 4 k44_4
 have k45_6 := kt hg45 6 k44_6
 have k45_13 := kt hg45 13 (hB45.is 1)
 refine wp_cond_true ((fr_eval rfl).trans k45_13) ?_
 refine wp_skip ?_
 refine hK22 _ _ ?_
 refine wp_seq_k fun K25 hK25 => ?_
 refine wp_block ?_
 refine wp_seq_k fun K26 hK26 => ?_
 have limR_l := OwnN.lim q171'
 have limR_x := OwnN.lim q172'
 have limR_y := OwnN.lim q173'
 have limQ_l := OwnN.lim q171'
 have limQ_x := OwnN.lim q172'
 have limQ_y := OwnN.lim q173'
 refine region_dk 7 [(16, 0), (17, 1), (18, 2), (19, 3), (20, 4), (21, 5), (7, 6)] [[], [], [0, 1], [0, 1, 2], [0, 1, 2, 3], [0, 1, 2, 3, 4], [], [0, 1, 2, 3, 4, 5, 6]] (rel [is (.int .i64 2),
   is (.pointer (some ⟨(s1 0), 0, none⟩)),
   is (.pointer (some ⟨(s1 0), 14, none⟩)),
   is (.agg #[.int .u8 ((sv 14)), .int .u8 ((sv 15)), .int .u8 ((sv 16)), .int .u8 ((sv 17)), .int .u8 ((sv 18)), .int .u8 ((sv 19)), .int .u8 ((sv 20))]),
   is (.agg #[.int .u8 0, .int .u8 0, .int .u8 0, .int .u8 0, .int .u8 0, .int .u8 0, .int .u8 0, .int .u8 0, .int .u8 0, .int .u8 0, .int .u8 0, .int .u8 0, .int .u8 0, .int .u8 0, .int .u8 0, .int .u8 0, .int .u8 0, .int .u8 0, .int .u8 ((sv 14)), .int .u8 ((sv 15)), .int .u8 ((sv 16)), .int .u8 ((sv 17)), .int .u8 ((sv 18)), .int .u8 ((sv 19)), .int .u8 ((sv 20))]),
   ab fun v W => BoxO W45.heap.size tb2 lg2 wd2 hh2 fp2 fq2 sl2 v W,
   bx 6 #[.int .i64 0, .slice (none) (0) (0), .int .i64 0, .slice (none) (0) (0), .slice (none) (0) (0), .int .i64 0, .bool false] 57])
  ⟨is_k, is_k, is_k, is_k, is_k, ab_k fun v W W' hb h => h.below hb, bx_k, trivial⟩
  ⟨fun f s W i j l m n a => opv rfl rfl (by simp [go_sem, a.e 6 k45_6]) rfl,
  fun f s W i j l m n a => opv rfl rfl (by simp [go_sem, a.e 1 k45_1]) rfl,
  fun f s W i j l m n a => opv rfl rfl (by simp [go_sem, a.e 17 (j 1 rfl), a.e 16 (j 0 rfl)]) rfl,
  fun f s W i j l m n a => opv rfl rfl (by simp [go_sem, a.e 18 (j 2 rfl), cb b45_0 i 14, cb b45_0 i 15, cb b45_0 i 16, cb b45_0 i 17, cb b45_0 i 18, cb b45_0 i 19, cb b45_0 i 20]) rfl,
  fun f s W i j l m n a => opv rfl rfl (by simp [go_sem, a.e 19 (j 3 rfl)]) rfl,
  fun f s W i j l m n a => opDo_call rfl rfl (by simp [go_sem, a.e 20 (j 4 rfl)]) (hbox2 W) ((fun e W' h => by obtain ⟨v, e1, h1, h2⟩ := h; exact ⟨_, e1, h2, h1.low i.size⟩)),
  fun f s W i j l m n a => opb rfl rfl (by simp [go_sem]), trivial⟩ ?_
 intro f46 s46 W46 hB46 g46 hg46
 have fB46 := hB46.f fB45
 have z46 := hB46.below.size
 have b46_0 := hB46.b b45_0
 have q174' := (q169'.below hB46.below)
 have q175' := (q170'.below hB46.below)
 have q176' := (q171'.below hB46.below)
 have q177' := (q172'.below hB46.below)
 have q178' := (q173'.below hB46.below)
 obtain ⟨g179', c182', g180', c183', g181', c184', r46_5, q185', q186', q187'⟩ := hB46.is 5
 obtain ⟨r46_6, br46_6⟩ := hB46.is 6
 have lr46_6 := hB46.lr 6 br46_6
 have k46_1 := kt hg46 1 k45_1
 have k46_5 := kt hg46 5 k45_5
 have k46_8 := kt hg46 8 k45_8
 have k46_9 := kt hg46 9 k45_9
 have k46_11 := kt hg46 11 k45_11
 have k46_47 := kt hg46 47 k45_47
 have k46_48 := kt hg46 48 k45_48
 have k46_49 := kt hg46 49 k45_49
 have k46_50 := kt hg46 50 k45_50
 have k46_51 := kt hg46 51 k45_51
 have k46_52 := kt hg46 52 k45_52
 have k46_53 := kt hg46 53 k45_53
 have k46_54 := kt hg46 54 k45_54
 have k46_55 := kt hg46 55 k45_55
 have k46_56 := kt hg46 56 k45_56
 have k46_57 := kt hg46 57 k45_57
 have k46_58 := kt hg46 58 k45_58
 have k46_59 := kt hg46 59 k45_59
 have k46_2 := kt hg46 2 k45_2
 have k46_3 := kt hg46 3 k45_3
 have k46_4 := kt hg46 4 k45_4
 have k46_6 := kt hg46 6 k45_6
 have k46_13 := kt hg46 13 k45_13
 have k46_21 := kt hg46 21 r46_5
 have k46_7 := kt hg46 7 r46_6
 have kz_0 := q174'.1
 have kz_1 := q175'.1
 obtain ⟨W47, hW47⟩ : ∃ W', W' = W46.setRow (s46 6) #[.int .i64 tb2, .slice (some ⟨g179', 0, none⟩) (4) (c182'), .int .i64 hh2, .slice (some ⟨g180', 0, none⟩) (2) (c183'), .slice (some ⟨g181', 0, none⟩) (2) (c184'), .int .i64 sl2, .bool false] := ⟨_, rfl⟩
 refine tail_skip (o := _) rfl ⟨rfl, rfl⟩ (run_seg hW47 (fr_ev k46_7) (fr_ev k46_21) br46_6 rfl rfl rfl rfl) ?_
 obtain ⟨fB47, nb47, ot47, z47⟩ := seg_facts hW47 fB46 br46_6 (by omega)
 clear hW47
 have b47_0 := ot47 _ _ (by omega) b46_0
 have q188' := q176'.other ot47 (fun g e => by have := limR_l g e; omega) z47
 have q189' := q177'.other ot47 (fun g e => by have := limR_x g e; omega) z47
 have q190' := q178'.other ot47 (fun g e => by have := limR_y g e; omega) z47
 have q191' := q185'.other ot47 (own_ne q185' br46_6) z47
 have q192' := q186'.other ot47 (own_ne q186' br46_6) z47
 have q193' := q187'.other ot47 (own_ne q187' br46_6) z47
 have q194' := q174'.ot ot47 (by omega) z47
 have q195' := q175'.ot ot47 (by omega) z47
 refine wpOps_end ?_
 refine hK26 _ _ ?_
 have ki2 : KeepI W45.heap.size W47 W47 := KeepI.refl _ _
 have ou2_l' : Out W45.heap.size W47.heap.size (some ⟨ga32, 0, none⟩) := fun k e => .inl (limR_l k e).2
 have ou2_x' : Out W45.heap.size W47.heap.size (some ⟨ga36, 0, none⟩) := fun k e => .inl (limR_x k e).2
 have ou2_y' : Out W45.heap.size W47.heap.size (some ⟨ga40, 0, none⟩) := fun k e => .inl (limR_y k e).2
 refine wp_seq_k fun K27 hK27 => ?_
 refine region_dk 12 [(23, 0), (24, 1), (25, 2), (22, 3), (26, 4), (27, 5), (28, 6), (29, 7), (8, 8), (9, 9), (10, 10), (11, 11)] [[], [0], [0, 1], [0, 1, 2], [0, 1, 2, 3], [0, 1, 2, 3], [0, 1, 2, 3], [0, 1, 2, 3], [0, 1, 2, 3, 4], [0, 1, 2, 3, 4, 5, 8], [0, 1, 2, 3, 4, 5, 6, 8, 9], [0, 1, 2, 3, 4, 5, 6, 7, 8, 9, 10]] (rel [is (.agg #[.int .i64 tb2, .slice (some ⟨g179', 0, none⟩) (4) (c182'), .int .i64 hh2, .slice (some ⟨g180', 0, none⟩) (2) (c183'), .slice (some ⟨g181', 0, none⟩) (2) (c184'), .int .i64 sl2, .bool false]),
   ab fun v W => NwBlk 0 (bb2) v W,
   is (.tuple #[.int .i64 ac2, .int .i64 al2, .int .i64 A2, .int .i64 0]),
   is (.tuple #[.int .i64 ac2, .int .i64 al2, .int .i64 A2, .int .i64 0]),
   is (.int .i64 ac2),
   is (.int .i64 al2),
   is (.int .i64 A2),
   is (.int .i64 0),
   is (.int .i64 ac2),
   is (.int .i64 al2),
   is (.int .i64 A2),
   is (.int .i64 0)])
  ⟨is_k, ab_k fun v W W' hb h => h.below hb, is_k, is_k, is_k, is_k, is_k, is_k, is_k, is_k, is_k, is_k, trivial⟩
  ⟨fun f s W i j l m n a => opl rfl rfl rfl (a.v 7 k46_7) (blk_below nb47 i) Try.underlying57 rfl (by kernel_rfl) rfl,
  fun f s W i j l m n a => opDo_call (args := #[.agg #[.int .i64 tb2, .slice (some ⟨g179', 0, none⟩) (4) (c182'), .int .i64 hh2, .slice (some ⟨g180', 0, none⟩) (2) (c183'), .slice (some ⟨g181', 0, none⟩) (2) (c184'), .int .i64 sl2, .bool false]]) rfl rfl (by simp [go_sem, a.e 23 (j 0 rfl)]) (pubBlank_any _ _ _ _ _ _ (⟨tb2, [lg2, wd2, lg2, wd2], hh2, [fp2, fp2], [fp2, fq2], sl2, false⟩ : Bl) W ((q191'.below i)).ii ((q192'.below i)).ii ((q193'.below i)).ii (show 4 ≤ 1000 by decide) (show 2 ≤ 1000 by decide) (show 2 ≤ 1000 by decide)) ((fun e W' h => by obtain ⟨v, e1, h1, h2⟩ := h; rw [hbb2] at h1; exact ⟨_, e1, h2, h1.low (Nat.zero_le _)⟩)),
  fun f s W i j l m n a => by obtain ⟨g196', c199', g197', c200', g198', c201', d1, ⟨q202', q204', q203'⟩, ⟨q205', q207', q206'⟩, ⟨q208', q210', q209'⟩⟩ := (j 1 rfl); exact opDo_call (args := #[.agg #[.int .i64 bb2.tab, .slice (some ⟨g196', 0, none⟩) (bb2.panels.length) (c199'), .int .i64 bb2.height, .slice (some ⟨g197', 0, none⟩) (bb2.top.length) (c200'), .slice (some ⟨g198', 0, none⟩) (bb2.bottom.length) (c201'), .int .i64 bb2.slot, .bool bb2.isOpen]]) rfl rfl (by simp [go_sem, a.e 24 d1]) (size_any _ bb2 W ⟨_, _, _, _, _, _, _, _, _, rfl, q202', q205', q208'⟩) ((fun e W' h => by have h1 := h.1; rw [if_pos hck2, hac2, hal2, hA2] at h1; exact ⟨_, h1, h.2, rfl⟩)),
  fun f s W i j l m n a => opv rfl rfl (by simp [go_sem, a.e 25 (j 2 rfl)]) rfl,
  fun f s W i j l m n a => opv rfl rfl (by simp [go_sem, a.e 22 (j 3 rfl)]) rfl,
  fun f s W i j l m n a => opv rfl rfl (by simp [go_sem, a.e 22 (j 3 rfl)]) rfl,
  fun f s W i j l m n a => opv rfl rfl (by simp [go_sem, a.e 22 (j 3 rfl)]) rfl,
  fun f s W i j l m n a => opv rfl rfl (by simp [go_sem, a.e 22 (j 3 rfl)]) rfl,
  fun f s W i j l m n a => opv rfl rfl (by simp [go_sem, a.e 26 (j 4 rfl)]) rfl,
  fun f s W i j l m n a => opv rfl rfl (by simp [go_sem, a.e 27 (j 5 rfl)]) rfl,
  fun f s W i j l m n a => opv rfl rfl (by simp [go_sem, a.e 28 (j 6 rfl)]) rfl,
  fun f s W i j l m n a => opv rfl rfl (by simp [go_sem, a.e 29 (j 7 rfl)]) rfl, trivial⟩ ?_
 intro f48 s48 W48 hB48 g48 hg48
 have fB48 := hB48.f fB47
 have z48 := hB48.below.size
 have b48_0 := hB48.b b47_0
 have b48_1 := hB48.b nb47
 have q211' := (q188'.below hB48.below)
 have q212' := (q189'.below hB48.below)
 have q213' := (q190'.below hB48.below)
 have q214' := (q191'.below hB48.below)
 have q215' := (q192'.below hB48.below)
 have q216' := (q193'.below hB48.below)
 have q217' := (q194'.below hB48.below)
 have q218' := (q195'.below hB48.below)
 have q219' := (ki2.below hB48.below)
 refine hK27 _ _ ?_
 have k48_1 := kt hg48 1 k46_1
 have k48_5 := kt hg48 5 k46_5
 have k48_47 := kt hg48 47 k46_47
 have k48_48 := kt hg48 48 k46_48
 have k48_49 := kt hg48 49 k46_49
 have k48_50 := kt hg48 50 k46_50
 have k48_51 := kt hg48 51 k46_51
 have k48_52 := kt hg48 52 k46_52
 have k48_53 := kt hg48 53 k46_53
 have k48_54 := kt hg48 54 k46_54
 have k48_55 := kt hg48 55 k46_55
 have k48_56 := kt hg48 56 k46_56
 have k48_57 := kt hg48 57 k46_57
 have k48_58 := kt hg48 58 k46_58
 have k48_59 := kt hg48 59 k46_59
 have k48_2 := kt hg48 2 k46_2
 have k48_3 := kt hg48 3 k46_3
 have k48_4 := kt hg48 4 k46_4
 have k48_6 := kt hg48 6 k46_6
 have k48_13 := kt hg48 13 k46_13
 have k48_21 := kt hg48 21 k46_21
 have k48_7 := kt hg48 7 k46_7
 have k48_8 := kt hg48 8 (hB48.is 8)
 have k48_9 := kt hg48 9 (hB48.is 9)
 have k48_11 := kt hg48 11 (hB48.is 11)
 refine wp_seq_k fun K28 hK28 => ?_
 refine wp_seq_k fun K29 hK29 => ?_
 refine region_dk 18 [(30, 0), (31, 1), (32, 2), (33, 3), (34, 4), (35, 5), (36, 6), (37, 7), (38, 8), (39, 9), (40, 10), (41, 11), (42, 12), (43, 13), (44, 14), (45, 15), (46, 16), (47, 17)] [[], [0], [0, 1], [0, 1, 2], [0, 1, 2, 3], [0, 1, 2, 3, 4], [0, 1, 2, 3, 4, 5], [0, 1, 2, 3, 4, 5, 6], [0, 1, 2, 3, 4, 5, 6, 7], [0, 1, 2, 3, 4, 5, 6, 7, 8], [0, 1, 2, 3, 4, 5, 6, 7, 8, 9], [0, 1, 2, 3, 4, 5, 6, 7, 8, 9, 10], [0, 1, 2, 3, 4, 5, 6, 7, 8, 9, 10, 11], [0, 1, 2, 3, 4, 5, 6, 7, 8, 9, 10, 11, 12], [0, 1, 2, 3, 4, 5, 6, 7, 8, 9, 10, 11, 12, 13], [0, 1, 2, 3, 4, 5, 6, 7, 8, 9, 10, 11, 12, 13, 14], [0, 1, 2, 3, 4, 5, 6, 7, 8, 9, 10, 11, 12, 13, 14, 15], [0, 1, 2, 3, 4, 5, 6, 7, 8, 9, 10, 11, 12, 13, 14, 15, 16]] (rel [is (.int .i64 0),
   is (.bool false),
   is (.bool false),
   is (.int .i64 ac2),
   is (.bool false),
   is (.bool false),
   is (.bool false),
   is (.int .i64 ac2),
   is (.bool false),
   is (.bool false),
   is (.bool false),
   is (.int .i64 al2),
   is (.bool false),
   is (.bool false),
   is (.bool false),
   is (.int .i64 al2),
   is (.bool false),
   is (.bool false)])
  ⟨is_k, is_k, is_k, is_k, is_k, is_k, is_k, is_k, is_k, is_k, is_k, is_k, is_k, is_k, is_k, is_k, is_k, is_k, trivial⟩
  ⟨fun f s W i j l m n a => opv rfl rfl (by simp [go_sem, a.e 11 k48_11]) rfl,
  fun f s W i j l m n a => opv rfl rfl (by simp [go_sem, a.e 30 (j 0 rfl)]) rfl,
  fun f s W i j l m n a => opv rfl rfl (by simp [go_sem, a.e 31 (j 1 rfl)]) rfl,
  fun f s W i j l m n a => osure rfl rfl (a.says (d := 32) rfl rfl (j 2 rfl)) (gv (by simp [go_sem, a.e 8 k48_8]) rfl),
  fun f s W i j l m n a => osure rfl rfl (a.says (d := 32) rfl rfl (j 2 rfl)) (gv (by simp [go_sem, a.e 33 (j 3 rfl), hd2_0]) rfl),
  fun f s W i j l m n a => opk (c := false) rfl rfl (fun _ => by simp [go_sem, a.e 32 (j 2 rfl), a.e 34 (j 4 rfl)]) (fun h => absurd h (by decide)),
  fun f s W i j l m n a => opv rfl rfl (by simp [go_sem, a.e 35 (j 5 rfl)]) rfl,
  fun f s W i j l m n a => osure rfl rfl (a.says (d := 36) rfl rfl (j 6 rfl)) (gv (by simp [go_sem, a.e 8 k48_8]) rfl),
  fun f s W i j l m n a => osure rfl rfl (a.says (d := 36) rfl rfl (j 6 rfl)) (gv (by simp [go_sem, a.e 37 (j 7 rfl), hd2_1]) rfl),
  fun f s W i j l m n a => opk (c := false) rfl rfl (fun _ => by simp [go_sem, a.e 36 (j 6 rfl), a.e 38 (j 8 rfl)]) (fun h => absurd h (by decide)),
  fun f s W i j l m n a => opv rfl rfl (by simp [go_sem, a.e 39 (j 9 rfl)]) rfl,
  fun f s W i j l m n a => osure rfl rfl (a.says (d := 40) rfl rfl (j 10 rfl)) (gv (by simp [go_sem, a.e 9 k48_9]) rfl),
  fun f s W i j l m n a => osure rfl rfl (a.says (d := 40) rfl rfl (j 10 rfl)) (gv (by simp [go_sem, a.e 41 (j 11 rfl), hd2_2]) rfl),
  fun f s W i j l m n a => opk (c := false) rfl rfl (fun _ => by simp [go_sem, a.e 40 (j 10 rfl), a.e 42 (j 12 rfl)]) (fun h => absurd h (by decide)),
  fun f s W i j l m n a => opv rfl rfl (by simp [go_sem, a.e 43 (j 13 rfl)]) rfl,
  fun f s W i j l m n a => osure rfl rfl (a.says (d := 44) rfl rfl (j 14 rfl)) (gv (by simp [go_sem, a.e 9 k48_9]) rfl),
  fun f s W i j l m n a => osure rfl rfl (a.says (d := 44) rfl rfl (j 14 rfl)) (gv (by simp [go_sem, a.e 45 (j 15 rfl), hd2_3]) rfl),
  fun f s W i j l m n a => opk (c := false) rfl rfl (fun _ => by simp [go_sem, a.e 44 (j 14 rfl), a.e 46 (j 16 rfl)]) (fun h => absurd h (by decide)), trivial⟩ ?_
 intro f49 s49 W49 hB49 g49 hg49
 have fB49 := hB49.f fB48
 have z49 := hB49.below.size
 have b49_0 := hB49.b b48_0
 have b49_1 := hB49.b b48_1
 have q220' := (q211'.below hB49.below)
 have q221' := (q212'.below hB49.below)
 have q222' := (q213'.below hB49.below)
 have q223' := (q214'.below hB49.below)
 have q224' := (q215'.below hB49.below)
 have q225' := (q216'.below hB49.below)
 have q226' := (q217'.below hB49.below)
 have q227' := (q218'.below hB49.below)
 have q228' := (q219'.below hB49.below)
 refine hK29 _ _ ?_
 have k49_1 := kt hg49 1 k48_1
 have k49_5 := kt hg49 5 k48_5
 have k49_48 := kt hg49 48 k48_48
 have k49_49 := kt hg49 49 k48_49
 have k49_50 := kt hg49 50 k48_50
 have k49_51 := kt hg49 51 k48_51
 have k49_52 := kt hg49 52 k48_52
 have k49_53 := kt hg49 53 k48_53
 have k49_54 := kt hg49 54 k48_54
 have k49_55 := kt hg49 55 k48_55
 have k49_56 := kt hg49 56 k48_56
 have k49_57 := kt hg49 57 k48_57
 have k49_58 := kt hg49 58 k48_58
 have k49_59 := kt hg49 59 k48_59
 have k49_2 := kt hg49 2 k48_2
 have k49_3 := kt hg49 3 k48_3
 have k49_4 := kt hg49 4 k48_4
 have k49_6 := kt hg49 6 k48_6
 have k49_13 := kt hg49 13 k48_13
 have k49_21 := kt hg49 21 k48_21
 have k49_7 := kt hg49 7 k48_7
 have k49_8 := kt hg49 8 k48_8
 have k49_9 := kt hg49 9 k48_9
 have k49_11 := kt hg49 11 k48_11
 have k49_47 := kt hg49 47 (hB49.is 17)
 refine wp_cond_false ((fr_eval rfl).trans k49_47) ?_
 refine wp_skip ?_
 refine hK28 _ _ ?_
 have limR_l := OwnN.lim q220'
 have limR_x := OwnN.lim q221'
 have limR_y := OwnN.lim q222'
 have kz_0 := q226'.1
 have kz_1 := q227'.1
 have kz_2 := q228'.1
 refine wp_region_seq ?_
 show wpOps _ _ _ (List.range' 0 15) _ _
 refine tail_value (o := _) rfl rfl rfl (v := .slice (some ⟨ga32, 0, none⟩) (2) (ca32)) (by simp [go_sem, frv 63 k49_2]) ?_
 generalize hg50 : upd g49 48 (.slice (some ⟨ga32, 0, none⟩) (2) (ca32)) = g50
 have k50_1 := ku hg50 1 k49_1
 have k50_5 := ku hg50 5 k49_5
 have k50_49 := ku hg50 49 k49_49
 have k50_50 := ku hg50 50 k49_50
 have k50_51 := ku hg50 51 k49_51
 have k50_52 := ku hg50 52 k49_52
 have k50_53 := ku hg50 53 k49_53
 have k50_54 := ku hg50 54 k49_54
 have k50_55 := ku hg50 55 k49_55
 have k50_56 := ku hg50 56 k49_56
 have k50_57 := ku hg50 57 k49_57
 have k50_58 := ku hg50 58 k49_58
 have k50_59 := ku hg50 59 k49_59
 have k50_2 := ku hg50 2 k49_2
 have k50_3 := ku hg50 3 k49_3
 have k50_4 := ku hg50 4 k49_4
 have k50_6 := ku hg50 6 k49_6
 have k50_13 := ku hg50 13 k49_13
 have k50_21 := ku hg50 21 k49_21
 have k50_7 := ku hg50 7 k49_7
 have k50_8 := ku hg50 8 k49_8
 have k50_9 := ku hg50 9 k49_9
 have k50_11 := ku hg50 11 k49_11
 have k50_47 := ku hg50 47 k49_47
 have k50_48 := kt hg50 48 (upd_same _ _ _)
 refine tail_value (o := _) rfl rfl rfl (v := .agg #[.int .i64 tb2, .slice (some ⟨g179', 0, none⟩) (4) (c182'), .int .i64 hh2, .slice (some ⟨g180', 0, none⟩) (2) (c183'), .slice (some ⟨g181', 0, none⟩) (2) (c184'), .int .i64 sl2, .bool false]) (by simp [go_sem, frv 63 k50_7, cl b49_1 0, cl b49_1 1, cl b49_1 2, cl b49_1 3, cl b49_1 4, cl b49_1 5, cl b49_1 6]) ?_
 generalize hg51 : upd g50 49 (.agg #[.int .i64 tb2, .slice (some ⟨g179', 0, none⟩) (4) (c182'), .int .i64 hh2, .slice (some ⟨g180', 0, none⟩) (2) (c183'), .slice (some ⟨g181', 0, none⟩) (2) (c184'), .int .i64 sl2, .bool false]) = g51
 have k51_1 := ku hg51 1 k50_1
 have k51_5 := ku hg51 5 k50_5
 have k51_50 := ku hg51 50 k50_50
 have k51_51 := ku hg51 51 k50_51
 have k51_52 := ku hg51 52 k50_52
 have k51_53 := ku hg51 53 k50_53
 have k51_54 := ku hg51 54 k50_54
 have k51_55 := ku hg51 55 k50_55
 have k51_56 := ku hg51 56 k50_56
 have k51_57 := ku hg51 57 k50_57
 have k51_58 := ku hg51 58 k50_58
 have k51_59 := ku hg51 59 k50_59
 have k51_2 := ku hg51 2 k50_2
 have k51_3 := ku hg51 3 k50_3
 have k51_4 := ku hg51 4 k50_4
 have k51_6 := ku hg51 6 k50_6
 have k51_13 := ku hg51 13 k50_13
 have k51_21 := ku hg51 21 k50_21
 have k51_7 := ku hg51 7 k50_7
 have k51_8 := ku hg51 8 k50_8
 have k51_9 := ku hg51 9 k50_9
 have k51_11 := ku hg51 11 k50_11
 have k51_47 := ku hg51 47 k50_47
 have k51_48 := ku hg51 48 k50_48
 have k51_49 := kt hg51 49 (upd_same _ _ _)
 refine tail_value2 (o := _) rfl rfl rfl (v := .slice (some ⟨W49.heap.size, 0, none⟩) 1 1) (W' := W49.alloc (.cells #[.int .i64 tb2, .slice (some ⟨g179', 0, none⟩) (4) (c182'), .int .i64 hh2, .slice (some ⟨g180', 0, none⟩) (2) (c183'), .slice (some ⟨g181', 0, none⟩) (2) (c184'), .int .i64 sl2, .bool false] 57 (0, 0))) (by simp [go_sem, frv 63 k51_49]) ?_
 obtain ⟨W52, hw52⟩ : ∃ Y, W49.alloc (.cells #[.int .i64 tb2, .slice (some ⟨g179', 0, none⟩) (4) (c182'), .int .i64 hh2, .slice (some ⟨g180', 0, none⟩) (2) (c183'), .slice (some ⟨g181', 0, none⟩) (2) (c184'), .int .i64 sl2, .bool false] 57 (0, 0)) = Y := ⟨_, rfl⟩
 rw [hw52]
 have hb52 : Below W49.heap.size W49 W52 := hw52 ▸ balloc1 _ _
 have bn52 : W52.heap[W49.heap.size]? = some (.cells #[.int .i64 tb2, .slice (some ⟨g179', 0, none⟩) (4) (c182'), .int .i64 hh2, .slice (some ⟨g180', 0, none⟩) (2) (c183'), .slice (some ⟨g181', 0, none⟩) (2) (c184'), .int .i64 sl2, .bool false] 57 (0, 0)) := hw52 ▸ blk_new rfl
 obtain ⟨nb52, hnb52⟩ : ∃ b, W49.heap.size = b := ⟨_, rfl⟩
 rw [hnb52] at bn52
 rw [hnb52]
 have fB52 := below_trans fB49 hb52
 have z52 := hb52.size
 have b52_0 := blk_below b49_0 hb52
 have b52_1 := blk_below b49_1 hb52
 have q229' := (q220'.below hb52)
 have q230' := (q221'.below hb52)
 have q231' := (q222'.below hb52)
 have q232' := (q223'.below hb52)
 have q233' := (q224'.below hb52)
 have q234' := (q225'.below hb52)
 have q235' := (q226'.below hb52)
 have q236' := (q227'.below hb52)
 have q237' := (q228'.below hb52)
 generalize hg52 : upd g51 50 (.slice (some ⟨nb52, 0, none⟩) (1) (1)) = g52
 have k52_1 := ku hg52 1 k51_1
 have k52_5 := ku hg52 5 k51_5
 have k52_51 := ku hg52 51 k51_51
 have k52_52 := ku hg52 52 k51_52
 have k52_53 := ku hg52 53 k51_53
 have k52_54 := ku hg52 54 k51_54
 have k52_55 := ku hg52 55 k51_55
 have k52_56 := ku hg52 56 k51_56
 have k52_57 := ku hg52 57 k51_57
 have k52_58 := ku hg52 58 k51_58
 have k52_59 := ku hg52 59 k51_59
 have k52_2 := ku hg52 2 k51_2
 have k52_3 := ku hg52 3 k51_3
 have k52_4 := ku hg52 4 k51_4
 have k52_6 := ku hg52 6 k51_6
 have k52_13 := ku hg52 13 k51_13
 have k52_21 := ku hg52 21 k51_21
 have k52_7 := ku hg52 7 k51_7
 have k52_8 := ku hg52 8 k51_8
 have k52_9 := ku hg52 9 k51_9
 have k52_11 := ku hg52 11 k51_11
 have k52_47 := ku hg52 47 k51_47
 have k52_48 := ku hg52 48 k51_48
 have k52_49 := ku hg52 49 k51_49
 have k52_50 := kt hg52 50 (upd_same _ _ _)
 obtain ⟨ga53, ca53, W53, ra53, ow53, ot53, z53, gg53, fB53⟩ := growN_tail 28 28 57 7 104 _ (by kernel_rfl) infoB rfl ((([] ++ [.int .i64 tb0, .slice (some ⟨g7', 0, none⟩) (4) (c10'), .int .i64 hh0, .slice (some ⟨g8', 0, none⟩) (2) (c11'), .slice (some ⟨g9', 0, none⟩) (2) (c12'), .int .i64 sl0, .bool false]) ++ [.int .i64 tb1, .slice (some ⟨g87', 0, none⟩) (4) (c90'), .int .i64 hh1, .slice (some ⟨g88', 0, none⟩) (2) (c91'), .slice (some ⟨g89', 0, none⟩) (2) (c92'), .int .i64 sl1, .bool false]) ++ [.int .i64 tb2, .slice (some ⟨g179', 0, none⟩) (4) (c182'), .int .i64 hh2, .slice (some ⟨g180', 0, none⟩) (2) (c183'), .slice (some ⟨g181', 0, none⟩) (2) (c184'), .int .i64 sl2, .bool false]) 3 (off := 0) (k := 1) (c' := 1) [.int .i64 tb2, .slice (some ⟨g179', 0, none⟩) (4) (c182'), .int .i64 hh2, .slice (some ⟨g180', 0, none⟩) (2) (c183'), .slice (some ⟨g181', 0, none⟩) (2) (c184'), .int .i64 sl2, .bool false] fB52 q229' rfl rfl rfl rfl (cells_at bn52) (by omega)
 refine tail_value2 (o := _) rfl rfl rfl (run_appendOp (fr_ev k52_48) (fr_ev k52_50) ra53) ?_
 have lh53 := OwnN.lim q229'
 have b53_0 := ot53 _ _ (ownN_ne q229' b52_0) b52_0
 have b53_1 := ot53 _ _ (fun g e => by have := limQ_l g e; omega) b52_1
 have on53 : OwnN 57 7 w.heap.size 3 ((([] ++ [.int .i64 tb0, .slice (some ⟨g7', 0, none⟩) (4) (c10'), .int .i64 hh0, .slice (some ⟨g8', 0, none⟩) (2) (c11'), .slice (some ⟨g9', 0, none⟩) (2) (c12'), .int .i64 sl0, .bool false]) ++ [.int .i64 tb1, .slice (some ⟨g87', 0, none⟩) (4) (c90'), .int .i64 hh1, .slice (some ⟨g88', 0, none⟩) (2) (c91'), .slice (some ⟨g89', 0, none⟩) (2) (c92'), .int .i64 sl1, .bool false]) ++ [.int .i64 tb2, .slice (some ⟨g179', 0, none⟩) (4) (c182'), .int .i64 hh2, .slice (some ⟨g180', 0, none⟩) (2) (c183'), .slice (some ⟨g181', 0, none⟩) (2) (c184'), .int .i64 sl2, .bool false]) (some ⟨ga53, 0, none⟩) ca53 W53 := .inr ⟨_, rfl, ow53⟩
 have q238' := OwnN.otherN q230' q229' ot53 z53
 have q239' := OwnN.otherN q231' q229' ot53 z53
 have q240' := KeepI.grow q235' ov32_0 ot53 z53
 have q241' := KeepI.grow q236' ov32_1 ot53 z53
 have q242' := KeepI.grow q237' ou2_l' ot53 z53
 have ov53_0 := Out.grow ov32_0 gg53 (by omega)
 have ov53_1 := Out.grow ov32_1 gg53 (by omega)
 have ov53_2 := Out.grow ou2_l' gg53 (by omega)
 have kz_0 := q240'.1
 have kz_1 := q241'.1
 have kz_2 := q242'.1
 have limR_l := OwnN.lim on53
 generalize hg53 : upd g52 51 (.slice (some ⟨ga53, 0, none⟩) (3) (ca53)) = g53
 have k53_1 := ku hg53 1 k52_1
 have k53_5 := ku hg53 5 k52_5
 have k53_52 := ku hg53 52 k52_52
 have k53_53 := ku hg53 53 k52_53
 have k53_54 := ku hg53 54 k52_54
 have k53_55 := ku hg53 55 k52_55
 have k53_56 := ku hg53 56 k52_56
 have k53_57 := ku hg53 57 k52_57
 have k53_58 := ku hg53 58 k52_58
 have k53_59 := ku hg53 59 k52_59
 have k53_2 := ku hg53 2 k52_2
 have k53_3 := ku hg53 3 k52_3
 have k53_4 := ku hg53 4 k52_4
 have k53_6 := ku hg53 6 k52_6
 have k53_13 := ku hg53 13 k52_13
 have k53_21 := ku hg53 21 k52_21
 have k53_7 := ku hg53 7 k52_7
 have k53_8 := ku hg53 8 k52_8
 have k53_9 := ku hg53 9 k52_9
 have k53_11 := ku hg53 11 k52_11
 have k53_47 := ku hg53 47 k52_47
 have k53_48 := ku hg53 48 k52_48
 have k53_49 := ku hg53 49 k52_49
 have k53_50 := ku hg53 50 k52_50
 have k53_51 := kt hg53 51 (upd_same _ _ _)
 refine tail_value (o := _) rfl rfl rfl (v := .slice (some ⟨ga36, 0, none⟩) (2) (ca36)) (by simp [go_sem, frv 63 k53_3]) ?_
 generalize hg54 : upd g53 52 (.slice (some ⟨ga36, 0, none⟩) (2) (ca36)) = g54
 have k54_1 := ku hg54 1 k53_1
 have k54_5 := ku hg54 5 k53_5
 have k54_53 := ku hg54 53 k53_53
 have k54_54 := ku hg54 54 k53_54
 have k54_55 := ku hg54 55 k53_55
 have k54_56 := ku hg54 56 k53_56
 have k54_57 := ku hg54 57 k53_57
 have k54_58 := ku hg54 58 k53_58
 have k54_59 := ku hg54 59 k53_59
 have k54_2 := ku hg54 2 k53_2
 have k54_3 := ku hg54 3 k53_3
 have k54_4 := ku hg54 4 k53_4
 have k54_6 := ku hg54 6 k53_6
 have k54_13 := ku hg54 13 k53_13
 have k54_21 := ku hg54 21 k53_21
 have k54_7 := ku hg54 7 k53_7
 have k54_8 := ku hg54 8 k53_8
 have k54_9 := ku hg54 9 k53_9
 have k54_11 := ku hg54 11 k53_11
 have k54_47 := ku hg54 47 k53_47
 have k54_48 := ku hg54 48 k53_48
 have k54_49 := ku hg54 49 k53_49
 have k54_50 := ku hg54 50 k53_50
 have k54_51 := ku hg54 51 k53_51
 have k54_52 := kt hg54 52 (upd_same _ _ _)
 refine tail_value (o := _) rfl rfl rfl (v := .int .i64 ac2) (by simp [go_sem, frv 63 k54_8]) ?_
 generalize hg55 : upd g54 53 (.int .i64 ac2) = g55
 have k55_1 := ku hg55 1 k54_1
 have k55_5 := ku hg55 5 k54_5
 have k55_54 := ku hg55 54 k54_54
 have k55_55 := ku hg55 55 k54_55
 have k55_56 := ku hg55 56 k54_56
 have k55_57 := ku hg55 57 k54_57
 have k55_58 := ku hg55 58 k54_58
 have k55_59 := ku hg55 59 k54_59
 have k55_2 := ku hg55 2 k54_2
 have k55_3 := ku hg55 3 k54_3
 have k55_4 := ku hg55 4 k54_4
 have k55_6 := ku hg55 6 k54_6
 have k55_13 := ku hg55 13 k54_13
 have k55_21 := ku hg55 21 k54_21
 have k55_7 := ku hg55 7 k54_7
 have k55_8 := ku hg55 8 k54_8
 have k55_9 := ku hg55 9 k54_9
 have k55_11 := ku hg55 11 k54_11
 have k55_47 := ku hg55 47 k54_47
 have k55_48 := ku hg55 48 k54_48
 have k55_49 := ku hg55 49 k54_49
 have k55_50 := ku hg55 50 k54_50
 have k55_51 := ku hg55 51 k54_51
 have k55_52 := ku hg55 52 k54_52
 have k55_53 := kt hg55 53 (upd_same _ _ _)
 refine tail_value2 (o := _) rfl rfl rfl (v := .slice (some ⟨W53.heap.size, 0, none⟩) 1 1) (W' := W53.alloc (.cells #[.int .i64 ac2] 3 (0, 0))) (by simp [go_sem, frv 63 k55_53]) ?_
 obtain ⟨W56, hw56⟩ : ∃ Y, W53.alloc (.cells #[.int .i64 ac2] 3 (0, 0)) = Y := ⟨_, rfl⟩
 rw [hw56]
 have hb56 : Below W53.heap.size W53 W56 := hw56 ▸ balloc1 _ _
 have bn56 : W56.heap[W53.heap.size]? = some (.cells #[.int .i64 ac2] 3 (0, 0)) := hw56 ▸ blk_new rfl
 obtain ⟨nb56, hnb56⟩ : ∃ b, W53.heap.size = b := ⟨_, rfl⟩
 rw [hnb56] at bn56
 rw [hnb56]
 have fB56 := below_trans fB53 hb56
 have z56 := hb56.size
 have b56_0 := blk_below b53_0 hb56
 have b56_1 := blk_below b53_1 hb56
 have q243' := (q238'.below hb56)
 have q244' := (q239'.below hb56)
 have q245' := (q240'.below hb56)
 have q246' := (q241'.below hb56)
 have q247' := (q242'.below hb56)
 have q248' := (on53.below hb56)
 generalize hg56 : upd g55 54 (.slice (some ⟨nb56, 0, none⟩) (1) (1)) = g56
 have k56_1 := ku hg56 1 k55_1
 have k56_5 := ku hg56 5 k55_5
 have k56_55 := ku hg56 55 k55_55
 have k56_56 := ku hg56 56 k55_56
 have k56_57 := ku hg56 57 k55_57
 have k56_58 := ku hg56 58 k55_58
 have k56_59 := ku hg56 59 k55_59
 have k56_2 := ku hg56 2 k55_2
 have k56_3 := ku hg56 3 k55_3
 have k56_4 := ku hg56 4 k55_4
 have k56_6 := ku hg56 6 k55_6
 have k56_13 := ku hg56 13 k55_13
 have k56_21 := ku hg56 21 k55_21
 have k56_7 := ku hg56 7 k55_7
 have k56_8 := ku hg56 8 k55_8
 have k56_9 := ku hg56 9 k55_9
 have k56_11 := ku hg56 11 k55_11
 have k56_47 := ku hg56 47 k55_47
 have k56_48 := ku hg56 48 k55_48
 have k56_49 := ku hg56 49 k55_49
 have k56_50 := ku hg56 50 k55_50
 have k56_51 := ku hg56 51 k55_51
 have k56_52 := ku hg56 52 k55_52
 have k56_53 := ku hg56 53 k55_53
 have k56_54 := kt hg56 54 (upd_same _ _ _)
 obtain ⟨ga57, ca57, W57, ra57, ow57, ot57, z57, gg57, fB57⟩ := growN_tail 29 29 3 1 8 _ (by kernel_rfl) infoI rfl (iis [ac0, ac1, ac2]) 3 (off := 0) (k := 1) (c' := 1) [.int .i64 ac2] fB56 q243' rfl rfl rfl rfl (cells_at bn56) (by omega)
 refine tail_value2 (o := _) rfl rfl rfl (run_appendOp (fr_ev k56_52) (fr_ev k56_54) ra57) ?_
 have lh57 := OwnN.lim q243'
 have b57_0 := ot57 _ _ (ownN_ne q243' b56_0) b56_0
 have b57_1 := ot57 _ _ (ownN_ne q243' b56_1) b56_1
 have on57 : OwnN 3 1 w.heap.size 3 (iis [ac0, ac1, ac2]) (some ⟨ga57, 0, none⟩) ca57 W57 := .inr ⟨_, rfl, ow57⟩
 have q249' := OwnN.otherA q244' ap40 ot57 z57
 have q250' := KeepI.grow q245' ov36_0 ot57 z57
 have q251' := KeepI.grow q246' ov36_1 ot57 z57
 have q252' := KeepI.grow q247' ou2_x' ot57 z57
 have q253' := OwnN.otherN q248' q243' ot57 z57
 have ap57 : Apart (some ⟨ga57, 0, none⟩) (some ⟨ga40, 0, none⟩) := (ap40).grow gg57 (fun k e => (OwnN.lim q244' k e).2)
 have ov57_0 := Out.grow ov36_0 gg57 (by omega)
 have ov57_1 := Out.grow ov36_1 gg57 (by omega)
 have ov57_2 := Out.grow ou2_x' gg57 (by omega)
 have kz_0 := q250'.1
 have kz_1 := q251'.1
 have kz_2 := q252'.1
 have limR_x := OwnN.lim on57
 generalize hg57 : upd g56 55 (.slice (some ⟨ga57, 0, none⟩) (3) (ca57)) = g57
 have k57_1 := ku hg57 1 k56_1
 have k57_5 := ku hg57 5 k56_5
 have k57_56 := ku hg57 56 k56_56
 have k57_57 := ku hg57 57 k56_57
 have k57_58 := ku hg57 58 k56_58
 have k57_59 := ku hg57 59 k56_59
 have k57_2 := ku hg57 2 k56_2
 have k57_3 := ku hg57 3 k56_3
 have k57_4 := ku hg57 4 k56_4
 have k57_6 := ku hg57 6 k56_6
 have k57_13 := ku hg57 13 k56_13
 have k57_21 := ku hg57 21 k56_21
 have k57_7 := ku hg57 7 k56_7
 have k57_8 := ku hg57 8 k56_8
 have k57_9 := ku hg57 9 k56_9
 have k57_11 := ku hg57 11 k56_11
 have k57_47 := ku hg57 47 k56_47
 have k57_48 := ku hg57 48 k56_48
 have k57_49 := ku hg57 49 k56_49
 have k57_50 := ku hg57 50 k56_50
 have k57_51 := ku hg57 51 k56_51
 have k57_52 := ku hg57 52 k56_52
 have k57_53 := ku hg57 53 k56_53
 have k57_54 := ku hg57 54 k56_54
 have k57_55 := kt hg57 55 (upd_same _ _ _)
 refine tail_value (o := _) rfl rfl rfl (v := .slice (some ⟨ga40, 0, none⟩) (2) (ca40)) (by simp [go_sem, frv 63 k57_4]) ?_
 generalize hg58 : upd g57 56 (.slice (some ⟨ga40, 0, none⟩) (2) (ca40)) = g58
 have k58_1 := ku hg58 1 k57_1
 have k58_5 := ku hg58 5 k57_5
 have k58_57 := ku hg58 57 k57_57
 have k58_58 := ku hg58 58 k57_58
 have k58_59 := ku hg58 59 k57_59
 have k58_2 := ku hg58 2 k57_2
 have k58_3 := ku hg58 3 k57_3
 have k58_4 := ku hg58 4 k57_4
 have k58_6 := ku hg58 6 k57_6
 have k58_13 := ku hg58 13 k57_13
 have k58_21 := ku hg58 21 k57_21
 have k58_7 := ku hg58 7 k57_7
 have k58_8 := ku hg58 8 k57_8
 have k58_9 := ku hg58 9 k57_9
 have k58_11 := ku hg58 11 k57_11
 have k58_47 := ku hg58 47 k57_47
 have k58_48 := ku hg58 48 k57_48
 have k58_49 := ku hg58 49 k57_49
 have k58_50 := ku hg58 50 k57_50
 have k58_51 := ku hg58 51 k57_51
 have k58_52 := ku hg58 52 k57_52
 have k58_53 := ku hg58 53 k57_53
 have k58_54 := ku hg58 54 k57_54
 have k58_55 := ku hg58 55 k57_55
 have k58_56 := kt hg58 56 (upd_same _ _ _)
 refine tail_value (o := _) rfl rfl rfl (v := .int .i64 al2) (by simp [go_sem, frv 63 k58_9]) ?_
 generalize hg59 : upd g58 57 (.int .i64 al2) = g59
 have k59_1 := ku hg59 1 k58_1
 have k59_5 := ku hg59 5 k58_5
 have k59_58 := ku hg59 58 k58_58
 have k59_59 := ku hg59 59 k58_59
 have k59_2 := ku hg59 2 k58_2
 have k59_3 := ku hg59 3 k58_3
 have k59_4 := ku hg59 4 k58_4
 have k59_6 := ku hg59 6 k58_6
 have k59_13 := ku hg59 13 k58_13
 have k59_21 := ku hg59 21 k58_21
 have k59_7 := ku hg59 7 k58_7
 have k59_8 := ku hg59 8 k58_8
 have k59_9 := ku hg59 9 k58_9
 have k59_11 := ku hg59 11 k58_11
 have k59_47 := ku hg59 47 k58_47
 have k59_48 := ku hg59 48 k58_48
 have k59_49 := ku hg59 49 k58_49
 have k59_50 := ku hg59 50 k58_50
 have k59_51 := ku hg59 51 k58_51
 have k59_52 := ku hg59 52 k58_52
 have k59_53 := ku hg59 53 k58_53
 have k59_54 := ku hg59 54 k58_54
 have k59_55 := ku hg59 55 k58_55
 have k59_56 := ku hg59 56 k58_56
 have k59_57 := kt hg59 57 (upd_same _ _ _)
 refine tail_value2 (o := _) rfl rfl rfl (v := .slice (some ⟨W57.heap.size, 0, none⟩) 1 1) (W' := W57.alloc (.cells #[.int .i64 al2] 3 (0, 0))) (by simp [go_sem, frv 63 k59_57]) ?_
 obtain ⟨W60, hw60⟩ : ∃ Y, W57.alloc (.cells #[.int .i64 al2] 3 (0, 0)) = Y := ⟨_, rfl⟩
 rw [hw60]
 have hb60 : Below W57.heap.size W57 W60 := hw60 ▸ balloc1 _ _
 have bn60 : W60.heap[W57.heap.size]? = some (.cells #[.int .i64 al2] 3 (0, 0)) := hw60 ▸ blk_new rfl
 obtain ⟨nb60, hnb60⟩ : ∃ b, W57.heap.size = b := ⟨_, rfl⟩
 rw [hnb60] at bn60
 rw [hnb60]
 have fB60 := below_trans fB57 hb60
 have z60 := hb60.size
 have b60_0 := blk_below b57_0 hb60
 have b60_1 := blk_below b57_1 hb60
 have q254' := (q249'.below hb60)
 have q255' := (q250'.below hb60)
 have q256' := (q251'.below hb60)
 have q257' := (q252'.below hb60)
 have q258' := (q253'.below hb60)
 have q259' := (on57.below hb60)
 generalize hg60 : upd g59 58 (.slice (some ⟨nb60, 0, none⟩) (1) (1)) = g60
 have k60_1 := ku hg60 1 k59_1
 have k60_5 := ku hg60 5 k59_5
 have k60_59 := ku hg60 59 k59_59
 have k60_2 := ku hg60 2 k59_2
 have k60_3 := ku hg60 3 k59_3
 have k60_4 := ku hg60 4 k59_4
 have k60_6 := ku hg60 6 k59_6
 have k60_13 := ku hg60 13 k59_13
 have k60_21 := ku hg60 21 k59_21
 have k60_7 := ku hg60 7 k59_7
 have k60_8 := ku hg60 8 k59_8
 have k60_9 := ku hg60 9 k59_9
 have k60_11 := ku hg60 11 k59_11
 have k60_47 := ku hg60 47 k59_47
 have k60_48 := ku hg60 48 k59_48
 have k60_49 := ku hg60 49 k59_49
 have k60_50 := ku hg60 50 k59_50
 have k60_51 := ku hg60 51 k59_51
 have k60_52 := ku hg60 52 k59_52
 have k60_53 := ku hg60 53 k59_53
 have k60_54 := ku hg60 54 k59_54
 have k60_55 := ku hg60 55 k59_55
 have k60_56 := ku hg60 56 k59_56
 have k60_57 := ku hg60 57 k59_57
 have k60_58 := kt hg60 58 (upd_same _ _ _)
 obtain ⟨ga61, ca61, W61, ra61, ow61, ot61, z61, gg61, fB61⟩ := growN_tail 29 29 3 1 8 _ (by kernel_rfl) infoI rfl (iis [al0, al1, al2]) 3 (off := 0) (k := 1) (c' := 1) [.int .i64 al2] fB60 q254' rfl rfl rfl rfl (cells_at bn60) (by omega)
 refine tail_value2 (o := _) rfl rfl rfl (run_appendOp (fr_ev k60_56) (fr_ev k60_58) ra61) ?_
 have lh61 := OwnN.lim q254'
 have b61_0 := ot61 _ _ (ownN_ne q254' b60_0) b60_0
 have b61_1 := ot61 _ _ (ownN_ne q254' b60_1) b60_1
 have on61 : OwnN 3 1 w.heap.size 3 (iis [al0, al1, al2]) (some ⟨ga61, 0, none⟩) ca61 W61 := .inr ⟨_, rfl, ow61⟩
 have q260' := KeepI.grow q255' ov40_0 ot61 z61
 have q261' := KeepI.grow q256' ov40_1 ot61 z61
 have q262' := KeepI.grow q257' ou2_y' ot61 z61
 have q263' := OwnN.otherN q258' q254' ot61 z61
 have q264' := OwnN.otherA q259' (ap57).symm ot61 z61
 have ap61 : Apart (some ⟨ga57, 0, none⟩) (some ⟨ga61, 0, none⟩) := ((ap57).symm.grow gg61 (fun k e => (OwnN.lim q259' k e).2)).symm
 have ov61_0 := Out.grow ov40_0 gg61 (by omega)
 have ov61_1 := Out.grow ov40_1 gg61 (by omega)
 have ov61_2 := Out.grow ou2_y' gg61 (by omega)
 have kz_0 := q260'.1
 have kz_1 := q261'.1
 have kz_2 := q262'.1
 have limR_y := OwnN.lim on61
 generalize hg61 : upd g60 59 (.slice (some ⟨ga61, 0, none⟩) (3) (ca61)) = g61
 have k61_1 := ku hg61 1 k60_1
 have k61_5 := ku hg61 5 k60_5
 have k61_2 := ku hg61 2 k60_2
 have k61_3 := ku hg61 3 k60_3
 have k61_4 := ku hg61 4 k60_4
 have k61_6 := ku hg61 6 k60_6
 have k61_13 := ku hg61 13 k60_13
 have k61_21 := ku hg61 21 k60_21
 have k61_7 := ku hg61 7 k60_7
 have k61_8 := ku hg61 8 k60_8
 have k61_9 := ku hg61 9 k60_9
 have k61_11 := ku hg61 11 k60_11
 have k61_47 := ku hg61 47 k60_47
 have k61_48 := ku hg61 48 k60_48
 have k61_49 := ku hg61 49 k60_49
 have k61_50 := ku hg61 50 k60_50
 have k61_51 := ku hg61 51 k60_51
 have k61_52 := ku hg61 52 k60_52
 have k61_53 := ku hg61 53 k60_53
 have k61_54 := ku hg61 54 k60_54
 have k61_55 := ku hg61 55 k60_55
 have k61_56 := ku hg61 56 k60_56
 have k61_57 := ku hg61 57 k60_57
 have k61_58 := ku hg61 58 k60_58
 have k61_59 := kt hg61 59 (upd_same _ _ _)
 refine tail_value (o := _) rfl rfl rfl (v := .slice (some ⟨ga53, 0, none⟩) (3) (ca53)) (by simp [go_sem, frv 63 k61_51]) ?_
 generalize hg62 : upd g61 2 (.slice (some ⟨ga53, 0, none⟩) (3) (ca53)) = g62
 have k62_1 := ku hg62 1 k61_1
 have k62_5 := ku hg62 5 k61_5
 have k62_3 := ku hg62 3 k61_3
 have k62_4 := ku hg62 4 k61_4
 have k62_6 := ku hg62 6 k61_6
 have k62_13 := ku hg62 13 k61_13
 have k62_21 := ku hg62 21 k61_21
 have k62_7 := ku hg62 7 k61_7
 have k62_8 := ku hg62 8 k61_8
 have k62_9 := ku hg62 9 k61_9
 have k62_11 := ku hg62 11 k61_11
 have k62_47 := ku hg62 47 k61_47
 have k62_48 := ku hg62 48 k61_48
 have k62_49 := ku hg62 49 k61_49
 have k62_50 := ku hg62 50 k61_50
 have k62_51 := ku hg62 51 k61_51
 have k62_52 := ku hg62 52 k61_52
 have k62_53 := ku hg62 53 k61_53
 have k62_54 := ku hg62 54 k61_54
 have k62_55 := ku hg62 55 k61_55
 have k62_56 := ku hg62 56 k61_56
 have k62_57 := ku hg62 57 k61_57
 have k62_58 := ku hg62 58 k61_58
 have k62_59 := ku hg62 59 k61_59
 have k62_2 := kt hg62 2 (upd_same _ _ _)
 refine tail_value (o := _) rfl rfl rfl (v := .slice (some ⟨ga57, 0, none⟩) (3) (ca57)) (by simp [go_sem, frv 63 k62_55]) ?_
 generalize hg63 : upd g62 3 (.slice (some ⟨ga57, 0, none⟩) (3) (ca57)) = g63
 have k63_1 := ku hg63 1 k62_1
 have k63_5 := ku hg63 5 k62_5
 have k63_4 := ku hg63 4 k62_4
 have k63_6 := ku hg63 6 k62_6
 have k63_13 := ku hg63 13 k62_13
 have k63_21 := ku hg63 21 k62_21
 have k63_7 := ku hg63 7 k62_7
 have k63_8 := ku hg63 8 k62_8
 have k63_9 := ku hg63 9 k62_9
 have k63_11 := ku hg63 11 k62_11
 have k63_47 := ku hg63 47 k62_47
 have k63_48 := ku hg63 48 k62_48
 have k63_49 := ku hg63 49 k62_49
 have k63_50 := ku hg63 50 k62_50
 have k63_51 := ku hg63 51 k62_51
 have k63_52 := ku hg63 52 k62_52
 have k63_53 := ku hg63 53 k62_53
 have k63_54 := ku hg63 54 k62_54
 have k63_55 := ku hg63 55 k62_55
 have k63_56 := ku hg63 56 k62_56
 have k63_57 := ku hg63 57 k62_57
 have k63_58 := ku hg63 58 k62_58
 have k63_59 := ku hg63 59 k62_59
 have k63_2 := ku hg63 2 k62_2
 have k63_3 := kt hg63 3 (upd_same _ _ _)
 refine tail_value (o := _) rfl rfl rfl (v := .slice (some ⟨ga61, 0, none⟩) (3) (ca61)) (by simp [go_sem, frv 63 k63_59]) ?_
 generalize hg64 : upd g63 4 (.slice (some ⟨ga61, 0, none⟩) (3) (ca61)) = g64
 have k64_1 := ku hg64 1 k63_1
 have k64_5 := ku hg64 5 k63_5
 have k64_6 := ku hg64 6 k63_6
 have k64_13 := ku hg64 13 k63_13
 have k64_21 := ku hg64 21 k63_21
 have k64_7 := ku hg64 7 k63_7
 have k64_8 := ku hg64 8 k63_8
 have k64_9 := ku hg64 9 k63_9
 have k64_11 := ku hg64 11 k63_11
 have k64_47 := ku hg64 47 k63_47
 have k64_48 := ku hg64 48 k63_48
 have k64_49 := ku hg64 49 k63_49
 have k64_50 := ku hg64 50 k63_50
 have k64_51 := ku hg64 51 k63_51
 have k64_52 := ku hg64 52 k63_52
 have k64_53 := ku hg64 53 k63_53
 have k64_54 := ku hg64 54 k63_54
 have k64_55 := ku hg64 55 k63_55
 have k64_56 := ku hg64 56 k63_56
 have k64_57 := ku hg64 57 k63_57
 have k64_58 := ku hg64 58 k63_58
 have k64_59 := ku hg64 59 k63_59
 have k64_2 := ku hg64 2 k63_2
 have k64_3 := ku hg64 3 k63_3
 have k64_4 := kt hg64 4 (upd_same _ _ _)
 refine wpOps_end ?_
 refine inBlock_normal ?_
 refine hK25 _ _ ?_
 refine region_dk 3 [(14, 0), (15, 1), (6, 2)] [[], [0], [0, 1]] (rel [is (.int .i64 2),
   is (.int .i64 3),
   is (.int .i64 3)])
  ⟨is_k, is_k, is_k, trivial⟩
  ⟨fun f s W i j l m n a => opv rfl rfl (by simp [go_sem, a.e 6 ((m 2 6 rfl rfl).trans k64_6)]) rfl,
  fun f s W i j l m n a => opv rfl rfl (by simp [go_sem, a.e 14 (j 0 rfl), IntWalk.i64_in (3) (by omega)]) rfl,
  fun f s W i j l m n a => opv rfl rfl (by simp [go_sem, a.e 15 (j 1 rfl)]) rfl, trivial⟩ ?_
 intro f65 s65 W65 hB65 g65 hg65
 have fB65 := hB65.f fB61
 have z65 := hB65.below.size
 have b65_0 := hB65.b b61_0
 have b65_1 := hB65.b b61_1
 have q265' := (q260'.below hB65.below)
 have q266' := (q261'.below hB65.below)
 have q267' := (q262'.below hB65.below)
 have q268' := (q263'.below hB65.below)
 have q269' := (q264'.below hB65.below)
 have q270' := (on61.below hB65.below)
 refine wpOps_end ?_
 have k65_1 := kt hg65 1 k64_1
 have k65_5 := kt hg65 5 k64_5
 have k65_13 := kt hg65 13 k64_13
 have k65_21 := kt hg65 21 k64_21
 have k65_7 := kt hg65 7 k64_7
 have k65_8 := kt hg65 8 k64_8
 have k65_9 := kt hg65 9 k64_9
 have k65_11 := kt hg65 11 k64_11
 have k65_47 := kt hg65 47 k64_47
 have k65_48 := kt hg65 48 k64_48
 have k65_49 := kt hg65 49 k64_49
 have k65_50 := kt hg65 50 k64_50
 have k65_51 := kt hg65 51 k64_51
 have k65_52 := kt hg65 52 k64_52
 have k65_53 := kt hg65 53 k64_53
 have k65_54 := kt hg65 54 k64_54
 have k65_55 := kt hg65 55 k64_55
 have k65_56 := kt hg65 56 k64_56
 have k65_57 := kt hg65 57 k64_57
 have k65_58 := kt hg65 58 k64_58
 have k65_59 := kt hg65 59 k64_59
 have k65_2 := kt hg65 2 k64_2
 have k65_3 := kt hg65 3 k64_3
 have k65_4 := kt hg65 4 k64_4
 have k65_6 := kt hg65 6 (hB65.is 2)
 refine then_normal ?_
 rw [rounds_succ]
 refine wp_seq_k fun K31 hK31 => ?_
 refine wp_seq_k fun K32 hK32 => ?_
 refine region_dk 2 [(12, 0), (13, 1)] [[], [0]] (rel [is (.int .i64 3),
   is (.bool false)])
  ⟨is_k, is_k, trivial⟩
  ⟨fun f s W i j l m n a => opv rfl rfl (by simp [go_sem, a.e 6 k65_6]) rfl,
  fun f s W i j l m n a => opv rfl rfl (by simp [go_sem, a.e 12 (j 0 rfl)]) rfl, trivial⟩ ?_
 intro f66 s66 W66 hB66 g66 hg66
 have fB66 := hB66.f fB65
 have z66 := hB66.below.size
 have b66_0 := hB66.b b65_0
 have b66_1 := hB66.b b65_1
 have q271' := (q265'.below hB66.below)
 have q272' := (q266'.below hB66.below)
 have q273' := (q267'.below hB66.below)
 have q274' := (q268'.below hB66.below)
 have q275' := (q269'.below hB66.below)
 have q276' := (q270'.below hB66.below)
 refine hK32 _ _ ?_
 have k66_1 := kt hg66 1 k65_1
 have k66_5 := kt hg66 5 k65_5
 have k66_21 := kt hg66 21 k65_21
 have k66_7 := kt hg66 7 k65_7
 have k66_8 := kt hg66 8 k65_8
 have k66_9 := kt hg66 9 k65_9
 have k66_11 := kt hg66 11 k65_11
 have k66_47 := kt hg66 47 k65_47
 have k66_48 := kt hg66 48 k65_48
 have k66_49 := kt hg66 49 k65_49
 have k66_50 := kt hg66 50 k65_50
 have k66_51 := kt hg66 51 k65_51
 have k66_52 := kt hg66 52 k65_52
 have k66_53 := kt hg66 53 k65_53
 have k66_54 := kt hg66 54 k65_54
 have k66_55 := kt hg66 55 k65_55
 have k66_56 := kt hg66 56 k65_56
 have k66_57 := kt hg66 57 k65_57
 have k66_58 := kt hg66 58 k65_58
 have k66_59 := kt hg66 59 k65_59
 have k66_2 := kt hg66 2 k65_2
 have k66_3 := kt hg66 3 k65_3
 have k66_4 := kt hg66 4 k65_4
 have k66_6 := kt hg66 6 k65_6
 have k66_13 := kt hg66 13 (hB66.is 1)
 refine wp_cond_false ((fr_eval rfl).trans k66_13) ?_
 refine wp_exit ?_
 refine then_exit ?_
 refine then_exit ?_
 refine inBlock_at ?_
 refine hK2 _ _ ?_
 refine wp_seq_k fun K34 hK34 => ?_
 refine region_dk 7 [(60, 0), (61, 1), (62, 2), (2, 3), (3, 4), (4, 5), (5, 6)] [[], [], [], [0], [0, 1, 3], [0, 1, 2, 3, 4], [0, 1, 2, 3, 4, 5]] (rel [is (.slice (some ⟨ga53, 0, none⟩) (3) (ca53)),
   is (.slice (some ⟨ga57, 0, none⟩) (3) (ca57)),
   is (.slice (some ⟨ga61, 0, none⟩) (3) (ca61)),
   is (.slice (some ⟨ga53, 0, none⟩) (3) (ca53)),
   is (.slice (some ⟨ga57, 0, none⟩) (3) (ca57)),
   is (.slice (some ⟨ga61, 0, none⟩) (3) (ca61)),
   is (.bool true)])
  ⟨is_k, is_k, is_k, is_k, is_k, is_k, is_k, trivial⟩
  ⟨fun f s W i j l m n a => opv rfl rfl (by simp [go_sem, a.e 2 ((m 3 2 rfl rfl).trans k66_2)]) rfl,
  fun f s W i j l m n a => opv rfl rfl (by simp [go_sem, a.e 3 ((m 4 3 rfl rfl).trans k66_3)]) rfl,
  fun f s W i j l m n a => opv rfl rfl (by simp [go_sem, a.e 4 ((m 5 4 rfl rfl).trans k66_4)]) rfl,
  fun f s W i j l m n a => opv rfl rfl (by simp [go_sem, a.e 60 (j 0 rfl)]) rfl,
  fun f s W i j l m n a => opv rfl rfl (by simp [go_sem, a.e 61 (j 1 rfl)]) rfl,
  fun f s W i j l m n a => opv rfl rfl (by simp [go_sem, a.e 62 (j 2 rfl)]) rfl,
  fun f s W i j l m n a => opv rfl rfl (by simp [go_sem]) rfl, trivial⟩ ?_
 intro f67 s67 W67 hB67 g67 hg67
 have fB67 := hB67.f fB66
 have z67 := hB67.below.size
 have b67_0 := hB67.b b66_0
 have b67_1 := hB67.b b66_1
 have q277' := (q271'.below hB67.below)
 have q278' := (q272'.below hB67.below)
 have q279' := (q273'.below hB67.below)
 have q280' := (q274'.below hB67.below)
 have q281' := (q275'.below hB67.below)
 have q282' := (q276'.below hB67.below)
 refine hK34 _ _ ?_
 have k67_2 := kt hg67 2 (hB67.is 3)
 have k67_3 := kt hg67 3 (hB67.is 4)
 have k67_4 := kt hg67 4 (hB67.is 5)
 have k67_5 := kt hg67 5 (hB67.is 6)
 refine wp_ret ?_
 refine leave_gen (v := .tuple #[.slice (some ⟨ga53, 0, none⟩) (3) (ca53), .slice (some ⟨ga57, 0, none⟩) (3) (ca57), .slice (some ⟨ga61, 0, none⟩) (3) (ca61), .bool true]) (.inr rfl) (by simp [results, Try.results7, go_sem, frv 63 k67_2, frv 63 k67_3, frv 63 k67_4, frv 63 k67_5]) ?_
 have z0_0 := (q19'.keepI q277' (Nat.le_refl _)).low (Nat.zero_le _)
 have z0_1 := (q20'.keepI q277' (Nat.le_refl _)).low (Nat.zero_le _)
 have z0_2 := (q21'.keepI q277' (Nat.le_refl _)).low (Nat.zero_le _)
 have z1_0 := (q99'.keepI q278' (Nat.le_refl _)).low (Nat.zero_le _)
 have z1_1 := (q100'.keepI q278' (Nat.le_refl _)).low (Nat.zero_le _)
 have z1_2 := (q101'.keepI q278' (Nat.le_refl _)).low (Nat.zero_le _)
 have z2_0 := (q191'.keepI q279' (Nat.le_refl _)).low (Nat.zero_le _)
 have z2_1 := (q192'.keepI q279' (Nat.le_refl _)).low (Nat.zero_le _)
 have z2_2 := (q193'.keepI q279' (Nat.le_refl _)).low (Nat.zero_le _)
 have rr_l := OwnN.row q280'
 have rr_x := OwnN.row q281'
 have rr_y := OwnN.row q282'
 exact ⟨_, _, _, rfl, ⟨ga53, ca53, (fun k => match k with | 0 => g7' | 1 => g8' | 2 => g9' | 3 => g87' | 4 => g88' | 5 => g89' | 6 => g179' | 7 => g180' | _ => g181'), (fun k => match k with | 0 => c10' | 1 => c11' | 2 => c12' | 3 => c90' | 4 => c91' | 5 => c92' | 6 => c182' | 7 => c183' | _ => c184'), rfl, ⟨Nat.zero_le _, rr_l.2.1, ownsRow_low rr_l.2.2 (Nat.zero_le _)⟩, z0_0, z0_1, z0_2, z1_0, z1_1, z1_2, z2_0, z2_1, z2_2⟩, ⟨ga57, ca57, rfl, OwnI.low rr_x (Nat.zero_le _)⟩, ⟨ga61, ca61, rfl, OwnI.low rr_y (Nat.zero_le _)⟩, fB67⟩
end Go.Proofs.Ytnhipdbdolabkaa
