/- Part of the proof: what the claim leans on. -/
import Derived.Test.YthnediamopehfaaGreatZAA
import Derived.Test.YthnediamopehfaaGreatZAB
import Derived.Test.YthnediamopehfaaGreatZAC
import Derived.Test.YthnediamopehfaaGreatZAD
import Derived.Test.YthnediamopehfaaGreatZAE
import Derived.Test.YthnediamopehfaaGreatZAF
import Derived.Test.YthnediamopehfaaGreatZAG
import Derived.Test.YthnediamopehfaaGreatZAH
import Derived.Test.YthnediamopehfaaGreatZAI
import Derived.Test.YthnediamopehfaaGreatZAJ
import Derived.Test.YthnediamopehfaaGreatZAK
import Derived.Test.YthnediamopehfaaGreatZAL
import Derived.Test.YthnediamopehfaaGreatZAM
import Derived.Test.YthnediamopehfaaGreatZAN
import Derived.Test.YthnediamopehfaaGreatZAO
import Derived.Test.YthnediamopehfaaGreatZAP
import Derived.Test.YthnediamopehfaaGreatZAQ
import Derived.Test.YthnediamopehfaaGreatZAR
import Derived.Test.YthnediamopehfaaGreatZAS
import Derived.Test.YthnediamopehfaaGreatZAT
import Derived.Test.YthnediamopehfaaGreatZAU
import Derived.Test.YthnediamopehfaaGreatZAV
import Derived.Test.YthnediamopehfaaGreatZAW
import Derived.Test.YthnediamopehfaaGreatZAX
import Derived.Test.YthnediamopehfaaGreatZAY
import Derived.Test.YthnediamopehfaaGreatZKnown
import Derived.Lib.SmallJoins
import Derived.Laws.CopyRow
import Derived.Laws.CopyOwn
import Derived.ArgAppend
set_option linter.unusedSimpArgs false
set_option linter.unusedVariables false
namespace Go.Proofs.YthnediamopehfaaGreat
open Go.RowKit
section
variable {P : Program} {ops : Array Oper} {Q : Exit → Act → World → Prop}
theorem says_not {ops : Array Oper} {N : Nat} {g : Nat → Value} {a : Act} (h : Holds' ops N g a) {j d : Nat} (hj : (ops[j]?).bind (·.dst) = some d) (hd : decide (d < N) = true) (hv : g d = undef) : yielded ops a.tmps j = none := by
  have h1 := (h.at' d hd).trans hv
  unfold yielded
  rw [hj]
  cases hx : a.tmps[d]? with
  | none => simp [hx]
  | some u =>
    rw [hx] at h1
    simp only [Option.getD_some] at h1
    subst h1
    simp [hx, undef]
theorem gdo2 {i j N d : Nat} {w1 c1 w2 c2 : Bool} {a : Act} {W W0 : World} {r : Rl} {s s0 : Nat → Nat} {g : Nat → Value} {o : Oper} (ho : ops[i]? = some o) (hg : o.guard = some (j, w2)) (ha : Holds' ops N g a) (hj : (ops[j]?).bind (·.dst) = some d) (hd : decide (d < N) = true)
    (hv : gd c1 w1 (is (.bool c2)) (g d) s0 W0)
    (h : c1 = w1 → c2 = w2 → ∀ K : Act → World → Prop, (∀ v W', Below W.heap.size W W' → r v s W' → K (a.put o.dst v) W') → o.wp P a W K Q) : OpDo P ops Q i a W (fun v W' => gd c1 w1 (gd c2 w2 r) v s W') := by
  by_cases h1 : c1 = w1
  · have hy := ha.says hj hd (hv.1 h1)
    have := opDo_guard (R := fun v W' => r v s W') ho hg hy (h h1)
    exact fun K hK => this K fun v W' hb hR => hK v W' hb ⟨fun _ => hR, fun e => absurd h1 e⟩
  · have hy := says_not ha hj hd (hv.2 h1)
    intro K hK
    unfold wpOp
    simp only [ho, Region.wanted, hg, hy]
    rw [ho] at hK
    rw [if_neg (by simp)]
    exact hK undef W (Below.refl _ _) ⟨fun e => absurd e h1, fun _ => rfl⟩
theorem gk {a : Act} {W : World} {o : Oper} {c : Bool} {v : Value} (hf : c = false → (execOp a.eval o).run P W = .ok (.value v) W) (ht : c = true → (execOp a.eval o).run P W = .ok (.value v) W) :
    ∀ K : Act → World → Prop, (∀ u W', Below W.heap.size W W' → u = v → K (a.put o.dst u) W') → o.wp P a W K Q := by
  cases c with
  | false => exact gv (hf rfl) rfl
  | true => exact gv (ht rfl) rfl
end
def IsPp (xs : List (Int × Int)) (v : Value) (W : World) : Prop := ∃ a c, v = .slice a xs.length c ∧ Pp W a xs.length c xs
theorem IsPp.below {xs : List (Int × Int)} {v : Value} {W W' : World} (h : IsPp xs v W) (hb : Below W.heap.size W W') : IsPp xs v W' := by
  obtain ⟨a, c, e, h⟩ := h; exact ⟨a, c, e, h.below hb (Nat.le_refl _)⟩
/-- A slice of the call's own that holds these, in a block from B on. -/
def NwIi (B : Nat) (xs : List Int) (v : Value) (W : World) : Prop := ∃ g c, v = .slice (some ⟨g, 0, none⟩) xs.length c ∧ Ii W (some ⟨g, 0, none⟩) xs.length c xs ∧ B ≤ g ∧ g < W.heap.size
theorem NwIi.below {B : Nat} {xs : List Int} {v : Value} {W W' : World} (h : NwIi B xs v W) (hb : Below W.heap.size W W') : NwIi B xs v W' := by
  obtain ⟨g, c, e, h, h1, h2⟩ := h; exact ⟨g, c, e, h.below hb (Nat.le_refl _), h1, Nat.lt_of_lt_of_le h2 hb.size⟩
/-- What an operation made lies apart from the block that another one began with. -/
theorem Behind.off {R : Nat → Value → (Nat → Nat) → World → Prop} {w : World} {n : Nat} {f : Nat → Value} {s : Nat → Nat} {W : World} (h : Behind R w n f s W) (i j : Nat) (hi : i < n) (hj : j < n) (hij : i ≠ j) {g : Nat}
    (hg : s i ≤ g) (h1 : ∀ W, R i (f i) s W → g < W.heap.size) (h2 : ∀ v s W, R j v s W → s j < W.heap.size) : g ≠ s j := by
  obtain ⟨t, ht, hd⟩ := h.apart
  obtain ⟨a, b, W1, r1, z1⟩ := ht i hi
  obtain ⟨c, d, W2, r2, z2⟩ := ht j hj
  have := h1 _ r1; have := h2 _ _ _ r2
  have := hd i j hi hj hij
  omega
end Go.Proofs.YthnediamopehfaaGreat
namespace Go.Proofs.YthnediamopehfaaGreat
open Go.RowKit
theorem clone_run (ty : TypeId) (W : World) (g : Nat) (a : Option Addr) (c : Nat) (xs : List Int) (h : Ii W a xs.length c xs) (hn : xs.length ≤ 1000) (hg : W.heap[g]? = some (.cells #[] 3 (0, 0))) (B : Nat) (hB : B ≤ g) (hB2 : B ≤ W.heap.size) :
    ∃ v W', (Builtin.append_ #[22, 22] ty #[.slice (some ⟨g, 0, none⟩) 0 0, .slice a xs.length c]).run Tryz.prog W = .ok v W' ∧ Below W.heap.size W W' ∧ NwIi B xs v W' := by
  obtain ⟨i0, hi, hz0, hz1, hz2⟩ := info_parts Tryz.info3x
  have hg' : g < W.heap.size := lt_of_blk hg
  by_cases hne : 0 < xs.length
  · obtain ⟨b, off, rfl, hb, hc⟩ := h.at hne
    obtain ⟨v, W', hr, hown, hgr⟩ := run_append_arg_grows (P := Tryz.prog) W 22 ty 3 i0 (.int .i64 0) 1 8 Tryz.underlying22 hi hz0 hz1 hz2 rfl (by decide) ⟨g, 0, none⟩ 0 0 [] rfl (fun j u hj => by simp at hj) ⟨b, off, none⟩ xs.length c (xs.map (Value.int .i64)) (by simp)
      (fun j u hj => by
        have hj' : j < xs.length := by
          rcases Nat.lt_or_ge j xs.length with h' | h'
          · exact h'
          · rw [List.getElem?_eq_none (by simpa using h')] at hj; cases hj
        rw [show ((⟨b, off, none⟩ : Addr).add j) = ⟨b, off + j, none⟩ from by unfold Addr.add; split <;> simp_all, hc j hj']
        simp [List.getElem?_map, hj'] at hj
        subst hj
        simp [List.getD_eq_getElem?_getD, hj'])
      (by omega) (by unfold maxLen; omega) (by omega)
    obtain ⟨g2, cap2, rfl⟩ := Joins.ownsRow_form hown (by omega)
    simp only [Nat.zero_add, List.nil_append] at hown hr
    exact ⟨_, W', hr, (Below.refl _ _).grown hgr (Nat.le_refl _) (fun k e => by cases e), g2, _, rfl, owns_ii (xs := xs) hown, Nat.le_trans hB2 (own_ge hown g2 rfl), own_lt' hown⟩
  · obtain rfl : xs = [] := by cases xs with | nil => rfl | cons x r => simp at hne
    have ii0 : Ii W (some ⟨g, 0, none⟩) 0 0 [] := ⟨rfl, Nat.le_refl _, by unfold maxLen; omega, by simp, .inl rfl⟩
    cases a with
    | none =>
      obtain rfl : c = 0 := h.2.2.2.1 rfl
      have hown : W.ownsRow 0 3 1 (.slice (some ⟨g, 0, none⟩) 0 0) 0 [] := ⟨rfl, .inr ⟨g, 0, #[], rfl, Nat.zero_le _, hg, Nat.le_refl _, by unfold maxLen; omega, rfl, rfl⟩⟩
      exact ⟨_, W, run_append_owned_none (P := Tryz.prog) W 0 22 ty 3 i0 1 Tryz.underlying22 hi _ 0 [] hown, Below.refl _ _, _, _, rfl, ii0, hB, hg'⟩
    | some ad =>
      have hr := run_append_room_cells (P := Tryz.prog) W 22 ty 3 i0 Tryz.underlying22 hi g 0 0 0 ad 0 c [] (by simp) (by simp) (by simp) (by omega) (by simp) (by simp)
      refine ⟨_, _, hr, ?_, g, _, rfl, ?_, hB, ?_⟩
      · simp [World.setCells]; exact Below.refl _ _
      · simp [World.setCells]; exact ii0
      · simp [World.setCells]; exact hg'
theorem NwBlk.lt {B : Nat} {b : Bl} {v : Value} {W : World} (h : NwBlk B b v W) {x1 x2 x3 x4 : Value} {g1 g2 g3 n1 n2 n3 c1 c2 c3 : Nat} (e : v = .agg #[x1, .slice (some ⟨g1, 0, none⟩) n1 c1, x2, .slice (some ⟨g2, 0, none⟩) n2 c2, .slice (some ⟨g3, 0, none⟩) n3 c3, x3, x4]) : g1 < W.heap.size ∧ g2 < W.heap.size ∧ g3 < W.heap.size := by
  obtain ⟨h1, d1, h2, d2, h3, d3, e', ⟨-, -, m1⟩, ⟨-, -, m2⟩, ⟨-, -, m3⟩⟩ := h
  rw [e] at e'
  simp only [Value.agg.injEq, Array.mk.injEq, List.cons.injEq, Value.slice.injEq, Option.some.injEq, Addr.mk.injEq, and_true] at e'
  obtain ⟨-, ⟨rfl, -⟩, -, ⟨rfl, -⟩, ⟨rfl, -⟩, -, -⟩ := e'
  exact ⟨m1, m2, m3⟩
end Go.Proofs.YthnediamopehfaaGreat
namespace Go.Proofs.YthnediamopehfaaGreat
open Go.RowKit
def inB (n lo hi : Int) : Bool := decide (lo ≤ n) && decide (n ≤ hi)
theorem all_step (xs : List Int) (p : Int → Bool) (k : Nat) (h : k < xs.length) : (xs.drop k).all p = (p (xs.getD k 0) && (xs.drop (k + 1)).all p) := by
  rw [List.drop_eq_getElem_cons h]
  simp only [List.all_cons, List.getD_eq_getElem?_getD, List.getElem?_eq_getElem h, Option.getD_some]
set_option maxRecDepth 100000 in
set_option maxHeartbeats 400000 in
theorem in_any (n lo hi : Int) (w : World) :
  Calls Tryz.prog 18 #[.int .i64 n, .int .i64 lo, .int .i64 hi] w (fun e w' => e = .returned (.bool (inB n lo hi)) ∧ Below w.heap.size w w') := by
 refine calls_fr Tryz.func18 Tryz.ntmps18 rfl rfl fun g hg => ?_
 have k0 : g 0 = .int .i64 n := hg 0
 have k1 : g 1 = .int .i64 lo := hg 1
 have k2 : g 2 = .int .i64 hi := hg 2
 clear hg
 have fB0 : Below w.heap.size w w := Below.refl _ _
 refine wp_seq_k fun K1 hK1 => ?_
 refine region_dk 1 [(6, 0)] [[]] (rel [is (.bool false)])
  ⟨is_k, trivial⟩
  ⟨fun f s W b h i j a ha => opv rfl rfl (by simp [go_sem]) rfl, trivial⟩ ?_
 intro f1 s1 W1 hB1 g1 hg1
 have fB1 := hB1.f fB0
 have z1 := hB1.below.size
 refine hK1 _ _ ?_
 have k1_0 := kt hg1 0 k0
 have k1_1 := kt hg1 1 k1
 have k1_2 := kt hg1 2 k2
 have k1_6 := kt hg1 6 (hB1.is 0)
 refine wp_seq_k fun K2 hK2 => ?_
 refine region_dk 9 [(7, 0), (8, 1), (9, 2), (10, 3), (11, 4), (12, 5), (13, 6), (14, 7), (6, 8)] [[], [], [0, 1], [0, 1, 2], [0, 1, 2, 3], [0, 1, 2, 3], [0, 1, 2, 3, 4, 5], [0, 1, 2, 3, 4, 5, 6], [0, 1, 2, 3, 4, 5, 6, 7]] (rel [is (.int .i64 n),
   is (.int .i64 lo),
   is (.bool (decide (lo ≤ n))),
   is (.bool (decide (lo ≤ n))),
   gd (decide (lo ≤ n)) true (is (.int .i64 n)),
   gd (decide (lo ≤ n)) true (is (.int .i64 hi)),
   gd (decide (lo ≤ n)) true (is (.bool (decide (n ≤ hi)))),
   is (.bool ((decide (lo ≤ n)) && (decide (n ≤ hi)))),
   is (.bool ((decide (lo ≤ n)) && (decide (n ≤ hi))))])
  ⟨is_k, is_k, is_k, is_k, gd_k (is_k), gd_k (is_k), gd_k (is_k), is_k, is_k, trivial⟩
  ⟨fun f s W b h i j a ha => opv rfl rfl (by simp [go_sem, ha.e 0 k1_0]) rfl,
  fun f s W b h i j a ha => opv rfl rfl (by simp [go_sem, ha.e 1 k1_1]) rfl,
  fun f s W b h i j a ha => opv rfl rfl (by simp [go_sem, ha.e 7 (h 0 rfl), ha.e 8 (h 1 rfl)]) rfl,
  fun f s W b h i j a ha => opv rfl rfl (by simp [go_sem, ha.e 9 (h 2 rfl)]) rfl,
  fun f s W b h i j a ha => gdo rfl rfl (ha.says (d := 10) rfl rfl (h 3 rfl)) fun hgd0 => gv (by simp [go_sem, ha.e 0 k1_0]) rfl,
  fun f s W b h i j a ha => gdo rfl rfl (ha.says (d := 10) rfl rfl (h 3 rfl)) fun hgd0 => gv (by simp [go_sem, ha.e 2 k1_2]) rfl,
  fun f s W b h i j a ha => gdo rfl rfl (ha.says (d := 10) rfl rfl (h 3 rfl)) fun hgd0 => gv (by simp [go_sem, ha.e 11 ((h 4 rfl).1 hgd0), ha.e 12 ((h 5 rfl).1 hgd0)]) rfl,
  fun f s W b h i j a ha => opk (c := decide (lo ≤ n)) rfl rfl (fun hpk => by first | (simp [go_sem, hpk, ha.e 10 (h 3 rfl)]; done) | (have hpk' := hpk; simp at hpk'; simp [go_sem, hpk', hpk, ha.e 10 (h 3 rfl)])) (fun hpk => by first | (simp [go_sem, hpk, ha.e 10 (h 3 rfl), ha.e 13 ((h 6 rfl).1 hpk)]; done) | (have hpk' := hpk; simp at hpk'; simp [go_sem, hpk', hpk, ha.e 10 (h 3 rfl), ha.e 13 ((h 6 rfl).1 hpk)])),
  fun f s W b h i j a ha => opv rfl rfl (by simp [go_sem, ha.e 14 (h 7 rfl)]) rfl, trivial⟩ ?_
 intro f2 s2 W2 hB2 g2 hg2
 have fB2 := hB2.f fB1
 have z2 := hB2.below.size
 refine hK2 _ _ ?_
 have k2_6 := kt hg2 6 (hB2.is 8)
 refine wp_ret ?_
 refine leave_one (N := 15) (v := .bool ((decide (lo ≤ n)) && (decide (n ≤ hi)))) (.inr rfl) Tryz.results18 rfl k2_6 ?_
 exact ⟨rfl, fB2⟩
def longB (xs : List Int) (least : Int) : Bool := xs.all fun x => inB x least 3000
set_option maxRecDepth 100000 in
set_option maxHeartbeats 400000 in
theorem long_any (a : Option Addr) (c : Nat) (xs : List Int) (least : Int) (w : World) (hI : Ii w a xs.length c xs) :
  Calls Tryz.prog 54 #[.slice (a) (xs.length) (c), .int .i64 least] w (fun e w' => e = .returned (.bool (longB xs least)) ∧ Below w.heap.size w w') := by
 have hmx := hI.len_le
 refine calls_fr Tryz.func54 Tryz.ntmps54 rfl rfl fun g hg => ?_
 have k0 : g 0 = .slice (a) (xs.length) (c) := hg 0
 have k1 : g 1 = .int .i64 least := hg 1
 clear hg
 have fB0 : Below w.heap.size w w := Below.refl _ _
 refine wp_seq_k fun K1 hK1 => ?_
 refine region_dk 1 [(4, 0)] [[]] (rel [is (.bool false)])
  ⟨is_k, trivial⟩
  ⟨fun f s W d h i j a ha => opv rfl rfl (by simp [go_sem]) rfl, trivial⟩ ?_
 intro f1 s1 W1 hB1 g1 hg1
 have fB1 := hB1.f fB0
 have z1 := hB1.below.size
 refine hK1 _ _ ?_
 have k1_0 := kt hg1 0 k0
 have k1_1 := kt hg1 1 k1
 have k1_4 := kt hg1 4 (hB1.is 0)
 refine wp_seq_k fun K2 hK2 => ?_
 refine wp_seq_k fun K3 hK3 => ?_
 refine region_dk 1 [(5, 0)] [[]] (rel [is (.int .i64 0)])
  ⟨is_k, trivial⟩
  ⟨fun f s W d h i j a ha => opv rfl rfl (by simp [go_sem]) rfl, trivial⟩ ?_
 intro f2 s2 W2 hB2 g2 hg2
 have fB2 := hB2.f fB1
 have z2 := hB2.below.size
 refine hK3 _ _ ?_
 have k2_0 := kt hg2 0 k1_0
 have k2_1 := kt hg2 1 k1_1
 have k2_4 := kt hg2 4 k1_4
 have k2_5 := kt hg2 5 (hB2.is 0)
 refine wp_block ?_
 refine wp_loop_n (fun m_ a_ W_ => ∃ g_ : Nat → Value, a_ = fr 19 g_ ∧ (∃ k : Nat, m_ = xs.length - k ∧ g_ 0 = .slice (a) (xs.length) (c) ∧ g_ 1 = .int .i64 least ∧ g_ 4 = .bool false ∧ g_ 5 = .int .i64 ((k : Int)) ∧ Below w.heap.size w W_ ∧ W2.heap.size ≤ W_.heap.size ∧ (xs.all fun x => inB x least 3000) = (xs.drop k).all fun x => inB x least 3000)) ⟨_, g2, rfl, 0, rfl, k2_0, k2_1, k2_4, k2_5.trans (by rfl), fB2, Nat.le_refl _, by simp⟩ ?_
 rintro _ _ W_1 ⟨g_1, rfl, k, rfl, k_1_0, k_1_1, k_1_4, k_1_5, fB_1, z_1, lp0⟩
 refine wp_seq_k fun K4 hK4 => ?_
 refine wp_seq_k fun K5 hK5 => ?_
 refine region_dk 4 [(6, 0), (7, 1), (8, 2), (9, 3)] [[], [], [1], [0, 1, 2]] (rel [is (.int .i64 ((k : Int))),
   is (.slice (a) (xs.length) (c)),
   is (.int .i64 ((xs.length : Int))),
   is (.bool (decide ((k : Int) < (xs.length : Int))))])
  ⟨is_k, is_k, is_k, is_k, trivial⟩
  ⟨fun f s W d h i j a ha => opv rfl rfl (by simp [go_sem, ha.e 5 k_1_5]) rfl,
  fun f s W d h i j a ha => opv rfl rfl (by simp [go_sem, ha.e 0 k_1_0]) rfl,
  fun f s W d h i j a ha => opv rfl rfl (by simp [go_sem, ha.e 7 (h 1 rfl)]) rfl,
  fun f s W d h i j a ha => opv rfl rfl (by simp [go_sem, ha.e 6 (h 0 rfl), ha.e 8 (h 2 rfl)]) rfl, trivial⟩ ?_
 intro f3 s3 W3 hB3 g3 hg3
 have fB3 := hB3.f fB_1
 have z3 := hB3.below.size
 refine hK5 _ _ ?_
 have k3_0 := kt hg3 0 k_1_0
 have k3_1 := kt hg3 1 k_1_1
 have k3_4 := kt hg3 4 k_1_4
 have k3_5 := kt hg3 5 k_1_5
 have k3_9 := kt hg3 9 (hB3.is 3)
 refine wp_cond_split (t := decide ((k : Int) < (xs.length : Int))) ((fr_eval rfl).trans k3_9) (fun hc6 => ?_) (fun hc6 => ?_)
 ·
  have hc6' := hc6; try simp only [ba] at hc6'
  have hlt : k < xs.length := by omega
  obtain ⟨b, off, hab, hbl, hcl⟩ := hI.at (by omega)
  refine wp_skip ?_
  refine hK4 _ _ ?_
  refine wp_seq_k fun K7 hK7 => ?_
  refine wp_block ?_
  refine wp_seq_k fun K8 hK8 => ?_
  refine region_dk 7 [(12, 0), (13, 1), (14, 2), (15, 3), (16, 4), (17, 5), (18, 6)] [[], [], [0, 1], [0, 1, 2], [], [0, 1, 2, 3, 4], [0, 1, 2, 3, 4, 5]] (rel [is (.slice (a) (xs.length) (c)),
   is (.int .i64 ((k : Int))),
   is (.pointer (some ⟨b, off + k, none⟩)),
   is (.int .i64 ((xs.getD k 0))),
   is (.int .i64 least),
   is (.bool (inB (xs.getD k 0) least 3000)),
   is (.bool (!(inB (xs.getD k 0) least 3000)))])
   ⟨is_k, is_k, is_k, is_k, is_k, is_k, is_k, trivial⟩
   ⟨fun f s W d h i j a ha => opv rfl rfl (by simp [go_sem, ha.e 0 k3_0]) rfl,
  fun f s W d h i j a ha => opv rfl rfl (by simp [go_sem, ha.e 5 k3_5]) rfl,
  fun f s W d h i j a ha => opv rfl rfl (by simp [go_sem, ha.e 12 (h 0 rfl), ha.e 13 (h 1 rfl), hab, hlt]) rfl,
  fun f s W d h i j a ha => by have l := below_trans fB3 d; exact opv rfl rfl (by simp [go_sem, ha.e 14 (h 2 rfl), (l.cell (p := ⟨b, off + k, none⟩) hbl).trans (hcl k hlt)]) rfl,
  fun f s W d h i j a ha => opv rfl rfl (by simp [go_sem, ha.e 1 k3_1]) rfl,
  fun f s W d h i j a ha => opc rfl rfl (by simp [go_sem, ha.e 15 (h 3 rfl), ha.e 16 (h 4 rfl)]) (in_any (xs.getD k 0) least 3000 W),
  fun f s W d h i j a ha => opv rfl rfl (by simp [go_sem, ha.e 17 (h 5 rfl)]) rfl, trivial⟩ ?_
  intro f4 s4 W4 hB4 g4 hg4
  have fB4 := hB4.f fB3
  have z4 := hB4.below.size
  refine hK8 _ _ ?_
  have k4_0 := kt hg4 0 k3_0
  have k4_1 := kt hg4 1 k3_1
  have k4_4 := kt hg4 4 k3_4
  have k4_5 := kt hg4 5 k3_5
  have k4_18 := kt hg4 18 (hB4.is 6)
  refine wp_cond_split (t := !(inB (xs.getD k 0) least 3000)) ((fr_eval rfl).trans k4_18) (fun hc9 => ?_) (fun hc9 => ?_)
  ·
   have hc9' := hc9; try simp only [ba] at hc9'
   refine wp_seq_k fun K10 hK10 => ?_
   refine region_dk 1 [(4, 0)] [[]] (rel [is (.bool false)])
    ⟨is_k, trivial⟩
    ⟨fun f s W d h i j a ha => opv rfl rfl (by simp [go_sem]) rfl, trivial⟩ ?_
   intro f5 s5 W5 hB5 g5 hg5
   have fB5 := hB5.f fB4
   have z5 := hB5.below.size
   refine hK10 _ _ ?_
   have k5_0 := kt hg5 0 k4_0
   have k5_1 := kt hg5 1 k4_1
   have k5_5 := kt hg5 5 k4_5
   have k5_4 := kt hg5 4 (hB5.is 0)
   refine wp_ret ?_
   refine inBlock_ret (then_ret (then_ret (inBlock_ret (then_ret ?_))))
   refine leave_one (N := 19) (v := .bool false) (.inr rfl) Tryz.results54 rfl k5_4 ?_
   exact ⟨by rw [show longB xs least = _ from lp0, all_step xs _ k hlt]; have h' := hc9; simp only [Bool.not_eq_true', Bool.not_eq_eq_eq_not, Bool.not_true] at h'; rw [h']; rfl, fB5⟩
  ·
   have hc9' := hc9; try simp only [ba] at hc9'
   refine wp_skip ?_
   refine inBlock_normal ?_
   refine hK7 _ _ ?_
   refine region_dk 3 [(10, 0), (11, 1), (5, 2)] [[], [0], [0, 1]] (rel [is (.int .i64 ((k : Int))),
   is (.int .i64 ((k : Int) + 1)),
   is (.int .i64 ((k : Int) + 1))])
    ⟨is_k, is_k, is_k, trivial⟩
    ⟨fun f s W d h i j a ha => opv rfl rfl (by simp [go_sem, ha.e 5 ((j 2 5 rfl rfl).trans k4_5)]) rfl,
  fun f s W d h i j a ha => opv rfl rfl (by simp [go_sem, ha.e 10 (h 0 rfl), IntWalk.i64_in ((k : Int) + 1) (by omega)]) rfl,
  fun f s W d h i j a ha => opv rfl rfl (by simp [go_sem, ha.e 11 (h 1 rfl)]) rfl, trivial⟩ ?_
   intro f6 s6 W6 hB6 g6 hg6
   have fB6 := hB6.f fB4
   have z6 := hB6.below.size
   refine wpOps_end ?_
   have k6_0 := kt hg6 0 k4_0
   have k6_1 := kt hg6 1 k4_1
   have k6_4 := kt hg6 4 k4_4
   have k6_5 := kt hg6 5 (hB6.is 2)
   refine then_normal ?_
   exact ⟨_, by omega, g6, rfl, k + 1, rfl, k6_0, k6_1, k6_4, k6_5.trans (by go_num), fB6, (by omega), by rw [lp0, all_step xs _ k hlt]; have h' := hc9; simp only [Bool.not_eq_false'] at h'; rw [h']; rfl⟩
 ·
  have hc6' := hc6; try simp only [ba] at hc6'
  refine wp_exit ?_
  refine then_exit ?_
  refine then_exit ?_
  refine inBlock_at ?_
  refine hK2 _ _ ?_
  refine wp_seq_k fun K11 hK11 => ?_
  refine region_dk 1 [(4, 0)] [[]] (rel [is (.bool true)])
   ⟨is_k, trivial⟩
   ⟨fun f s W d h i j a ha => opv rfl rfl (by simp [go_sem]) rfl, trivial⟩ ?_
  intro f7 s7 W7 hB7 g7 hg7
  have fB7 := hB7.f fB3
  have z7 := hB7.below.size
  refine hK11 _ _ ?_
  have k7_4 := kt hg7 4 (hB7.is 0)
  refine wp_ret ?_
  refine leave_one (N := 19) (v := .bool true) (.inr rfl) Tryz.results54 rfl k7_4 ?_
  exact ⟨by rw [show longB xs least = _ from lp0, drop_end xs k (by omega)]; rfl, fB7⟩
end Go.Proofs.YthnediamopehfaaGreat
namespace Go.Proofs.YthnediamopehfaaGreat
open Go.RowKit
set_option maxRecDepth 100000 in
set_option maxHeartbeats 1000000 in
theorem copy_any (a1 a2 a3 : Option Addr) (c1 c2 c3 : Nat) (b : Bl) (w : World) (h1 : Ii w a1 b.panels.length c1 b.panels) (h2 : Ii w a2 b.top.length c2 b.top) (h3 : Ii w a3 b.bottom.length c3 b.bottom) (n1 : b.panels.length ≤ 1000) (n2 : b.top.length ≤ 1000) (n3 : b.bottom.length ≤ 1000) :
  Calls Tryz.prog 48 #[.agg #[.int .i64 b.tab, .slice (a1) (b.panels.length) (c1), .int .i64 b.height, .slice (a2) (b.top.length) (c2), .slice (a3) (b.bottom.length) (c3), .int .i64 b.slot, .bool b.isOpen]] w (NwBlkP b w) := by
 refine calls_fr Tryz.func48 Tryz.ntmps48 rfl rfl fun g hg => ?_
 have k0 : g 0 = .agg #[.int .i64 b.tab, .slice (a1) (b.panels.length) (c1), .int .i64 b.height, .slice (a2) (b.top.length) (c2), .slice (a3) (b.bottom.length) (c3), .int .i64 b.slot, .bool b.isOpen] := hg 0
 clear hg
 have fB0 : Below w.heap.size w w := Below.refl _ _
 refine wp_seq_k fun K1 hK1 => ?_
 refine region_dk 2 [(1, 0), (2, 1)] [[], []] (rel [bx 0 #[.int .i64 b.tab, .slice (a1) (b.panels.length) (c1), .int .i64 b.height, .slice (a2) (b.top.length) (c2), .slice (a3) (b.bottom.length) (c3), .int .i64 b.slot, .bool b.isOpen] 24,
   bx 1 #[.int .i64 0, .slice (none) (0) (0), .int .i64 0, .slice (none) (0) (0), .slice (none) (0) (0), .int .i64 0, .bool false] 24])
  ⟨bx_k, bx_k, trivial⟩
  ⟨fun f s W c d i j a ha => opb rfl rfl (by simp [go_sem, ha.e 0 k0]),
  fun f s W c d i j a ha => opb rfl rfl (by simp [go_sem]), trivial⟩ ?_
 intro f1 s1 W1 hB1 g1 hg1
 have fB1 := hB1.f fB0
 have z1 := hB1.below.size
 obtain ⟨r1_0, br1_0⟩ := hB1.is 0
 have lr1_0 := hB1.lr 0 br1_0
 obtain ⟨r1_1, br1_1⟩ := hB1.is 1
 have lr1_1 := hB1.lr 1 br1_1
 have ne1_0_1 : s1 0 ≠ s1 1 := hB1.ne 0 1 (by decide) (by decide) (by decide) (fun _ _ _ h => lt_of_blk h.2) (fun _ _ _ h => lt_of_blk h.2)
 refine hK1 _ _ ?_
 have k1_1 := kt hg1 1 r1_0
 have k1_2 := kt hg1 2 r1_1
 refine wp_seq_k fun K2 hK2 => ?_
 refine region_dk 13 [(3, 0), (4, 1), (5, 2), (6, 3), (7, 4), (8, 5), (9, 6), (10, 7), (11, 8), (12, 9), (13, 10), (14, 11), (15, 12), (16, 14), (17, 16)] [[], [], [1], [0, 1, 2], [], [], [5], [0, 1, 2, 3, 4, 5, 6], [], [], [9], [0, 1, 2, 3, 4, 5, 6, 7, 8, 9, 10], [0, 1, 2, 3, 5, 6, 9, 10], [0, 1, 2, 3, 4, 5, 6, 7, 8, 9, 10, 11, 12], [0, 1, 2, 3, 4, 5, 6, 7, 8, 9, 10, 11, 12, 13], [0, 1, 2, 3, 4, 5, 6, 7, 8, 9, 10, 11, 12, 13, 14], [0, 1, 2, 3, 4, 5, 6, 7, 8, 9, 10, 11, 12, 13, 14, 15], [0, 1, 2, 3, 4, 5, 6, 7, 8, 9, 10, 11, 12, 13, 14, 15, 16]] (rel [row 0 0 #[] 3,
   is (.pointer (some ⟨(s1 0), 1, none⟩)),
   is (.slice (a1) (b.panels.length) (c1)),
   ab fun v W => NwIi W1.heap.size (b.panels) v W,
   row 4 0 #[] 3,
   is (.pointer (some ⟨(s1 0), 3, none⟩)),
   is (.slice (a2) (b.top.length) (c2)),
   ab fun v W => NwIi W1.heap.size (b.top) v W,
   row 8 0 #[] 3,
   is (.pointer (some ⟨(s1 0), 4, none⟩)),
   is (.slice (a3) (b.bottom.length) (c3)),
   ab fun v W => NwIi W1.heap.size (b.bottom) v W,
   is (.pointer (some ⟨(s1 0), 1, none⟩))])
  ⟨row_k, is_k, is_k, ab_k fun v W W' hb h => h.below hb, row_k, is_k, is_k, ab_k fun v W W' hb h => h.below hb, row_k, is_k, is_k, ab_k fun v W W' hb h => h.below hb, is_k, trivial⟩
  ⟨fun f s W c d i j a ha => opr rfl rfl (by simp [go_sem]),
  fun f s W c d i j a ha => opv rfl rfl (by simp [go_sem, ha.e 1 k1_1]) rfl,
  fun f s W c d i j a ha => opv rfl rfl (by simp [go_sem, ha.e 4 (d 1 rfl), cb br1_0 c 1]) rfl,
  fun f s W c d i j a ha => by have k := below_trans fB1 c; obtain ⟨v_, W_, r_, b_, i_⟩ := clone_run 22 W (s 0) (a1) (c1) (b.panels) ((h1.below k (Nat.le_refl _))) (n1) (d 0 rfl).2 W1.heap.size (i 0 rfl) c.size; exact opDo_value rfl rfl (run_appendOp (ha.v 3 (d 0 rfl).1) (ha.v 5 (d 2 rfl)) r_) b_ i_,
  fun f s W c d i j a ha => opr rfl rfl (by simp [go_sem]),
  fun f s W c d i j a ha => opv rfl rfl (by simp [go_sem, ha.e 1 k1_1]) rfl,
  fun f s W c d i j a ha => opv rfl rfl (by simp [go_sem, ha.e 8 (d 5 rfl), cb br1_0 c 3]) rfl,
  fun f s W c d i j a ha => by have k := below_trans fB1 c; obtain ⟨v_, W_, r_, b_, i_⟩ := clone_run 22 W (s 4) (a2) (c2) (b.top) ((h2.below k (Nat.le_refl _))) (n2) (d 4 rfl).2 W1.heap.size (i 4 rfl) c.size; exact opDo_value rfl rfl (run_appendOp (ha.v 7 (d 4 rfl).1) (ha.v 9 (d 6 rfl)) r_) b_ i_,
  fun f s W c d i j a ha => opr rfl rfl (by simp [go_sem]),
  fun f s W c d i j a ha => opv rfl rfl (by simp [go_sem, ha.e 1 k1_1]) rfl,
  fun f s W c d i j a ha => opv rfl rfl (by simp [go_sem, ha.e 12 (d 9 rfl), cb br1_0 c 4]) rfl,
  fun f s W c d i j a ha => by have k := below_trans fB1 c; obtain ⟨v_, W_, r_, b_, i_⟩ := clone_run 22 W (s 8) (a3) (c3) (b.bottom) ((h3.below k (Nat.le_refl _))) (n3) (d 8 rfl).2 W1.heap.size (i 8 rfl) c.size; exact opDo_value rfl rfl (run_appendOp (ha.v 11 (d 8 rfl).1) (ha.v 13 (d 10 rfl)) r_) b_ i_,
  fun f s W c d i j a ha => opv rfl rfl (by simp [go_sem, ha.e 1 k1_1]) rfl, trivial⟩ ?_
 intro f2 s2 W2 hB2 g2 hg2
 have fB2 := hB2.f fB1
 have z2 := hB2.below.size
 have b2_0 := hB2.b br1_0
 have b2_1 := hB2.b br1_1
 obtain ⟨r2_0, br2_0⟩ := hB2.is 0
 have lr2_0 := hB2.lr 0 br2_0
 obtain ⟨g1', c2', r2_3, q3', q5', q4'⟩ := hB2.is 3
 obtain ⟨r2_4, br2_4⟩ := hB2.is 4
 have lr2_4 := hB2.lr 4 br2_4
 obtain ⟨g6', c7', r2_7, q8', q10', q9'⟩ := hB2.is 7
 obtain ⟨r2_8, br2_8⟩ := hB2.is 8
 have lr2_8 := hB2.lr 8 br2_8
 obtain ⟨g11', c12', r2_11, q13', q15', q14'⟩ := hB2.is 11
 have ne2_0_4 : s2 0 ≠ s2 4 := hB2.ne 0 4 (by decide) (by decide) (by decide) (fun _ _ _ h => lt_of_blk h.2) (fun _ _ _ h => lt_of_blk h.2)
 have ne2_0_8 : s2 0 ≠ s2 8 := hB2.ne 0 8 (by decide) (by decide) (by decide) (fun _ _ _ h => lt_of_blk h.2) (fun _ _ _ h => lt_of_blk h.2)
 have ne2_4_8 : s2 4 ≠ s2 8 := hB2.ne 4 8 (by decide) (by decide) (by decide) (fun _ _ _ h => lt_of_blk h.2) (fun _ _ _ h => lt_of_blk h.2)
 have k2_1 := kt hg2 1 k1_1
 have k2_2 := kt hg2 2 k1_2
 have k2_6 := kt hg2 6 r2_3
 have k2_10 := kt hg2 10 r2_7
 have k2_14 := kt hg2 14 r2_11
 have k2_15 := kt hg2 15 (hB2.is 12)
 obtain ⟨W3, hW3⟩ : ∃ W', W' = W2.setRow (s1 0) #[.int .i64 b.tab, .slice (some ⟨g1', 0, none⟩) ((b.panels).length) (c2'), .int .i64 b.height, .slice (a2) (b.top.length) (c2), .slice (a3) (b.bottom.length) (c3), .int .i64 b.slot, .bool b.isOpen] := ⟨_, rfl⟩
 refine tail_skip (o := _) rfl ⟨rfl, rfl⟩ (run_seg hW3 (fr_ev k2_15) (fr_ev k2_6) b2_0 rfl rfl rfl rfl) ?_
 obtain ⟨fB3, nb3, ot3, z3⟩ := seg_facts hW3 fB2 b2_0 (by omega)
 clear hW3
 have b3_1 := ot3 _ _ (by omega) b2_1
 have b3_2 := ot3 _ _ (by omega) br2_0
 have b3_3 := ot3 _ _ (by omega) br2_4
 have b3_4 := ot3 _ _ (by omega) br2_8
 have q16' := (q3'.other ot3 q4' (by omega) z3)
 have q17' := Nat.lt_of_lt_of_le q4' z3
 have q18' := (q8'.other ot3 q9' (by omega) z3)
 have q19' := Nat.lt_of_lt_of_le q9' z3
 have q20' := (q13'.other ot3 q14' (by omega) z3)
 have q21' := Nat.lt_of_lt_of_le q14' z3
 refine tail_value (o := _) rfl rfl rfl (v := .pointer (some ⟨(s1 0), 3, none⟩)) (by simp [go_sem, frv 19 k2_1]) ?_
 generalize hg4 : upd g2 16 (.pointer (some ⟨(s1 0), 3, none⟩)) = g4
 have k4_1 := ku hg4 1 k2_1
 have k4_2 := ku hg4 2 k2_2
 have k4_10 := ku hg4 10 k2_10
 have k4_14 := ku hg4 14 k2_14
 have k4_16 := kt hg4 16 (upd_same _ _ _)
 obtain ⟨W5, hW5⟩ : ∃ W', W' = W3.setRow (s1 0) #[.int .i64 b.tab, .slice (some ⟨g1', 0, none⟩) ((b.panels).length) (c2'), .int .i64 b.height, .slice (some ⟨g6', 0, none⟩) ((b.top).length) (c7'), .slice (a3) (b.bottom.length) (c3), .int .i64 b.slot, .bool b.isOpen] := ⟨_, rfl⟩
 refine tail_skip (o := _) rfl ⟨rfl, rfl⟩ (run_seg hW5 (fr_ev k4_16) (fr_ev k4_10) nb3 rfl rfl rfl rfl) ?_
 obtain ⟨fB5, nb5, ot5, z5⟩ := seg_facts hW5 fB3 nb3 (by omega)
 clear hW5
 have b5_1 := ot5 _ _ (by omega) b3_1
 have b5_2 := ot5 _ _ (by omega) b3_2
 have b5_3 := ot5 _ _ (by omega) b3_3
 have b5_4 := ot5 _ _ (by omega) b3_4
 have q22' := (q16'.other ot5 q17' (by omega) z5)
 have q23' := Nat.lt_of_lt_of_le q17' z5
 have q24' := (q18'.other ot5 q19' (by omega) z5)
 have q25' := Nat.lt_of_lt_of_le q19' z5
 have q26' := (q20'.other ot5 q21' (by omega) z5)
 have q27' := Nat.lt_of_lt_of_le q21' z5
 refine tail_value (o := _) rfl rfl rfl (v := .pointer (some ⟨(s1 0), 4, none⟩)) (by simp [go_sem, frv 19 k4_1]) ?_
 generalize hg6 : upd g4 17 (.pointer (some ⟨(s1 0), 4, none⟩)) = g6
 have k6_1 := ku hg6 1 k4_1
 have k6_2 := ku hg6 2 k4_2
 have k6_14 := ku hg6 14 k4_14
 have k6_17 := kt hg6 17 (upd_same _ _ _)
 obtain ⟨W7, hW7⟩ : ∃ W', W' = W5.setRow (s1 0) #[.int .i64 b.tab, .slice (some ⟨g1', 0, none⟩) ((b.panels).length) (c2'), .int .i64 b.height, .slice (some ⟨g6', 0, none⟩) ((b.top).length) (c7'), .slice (some ⟨g11', 0, none⟩) ((b.bottom).length) (c12'), .int .i64 b.slot, .bool b.isOpen] := ⟨_, rfl⟩
 refine tail_skip (o := _) rfl ⟨rfl, rfl⟩ (run_seg hW7 (fr_ev k6_17) (fr_ev k6_14) nb5 rfl rfl rfl rfl) ?_
 obtain ⟨fB7, nb7, ot7, z7⟩ := seg_facts hW7 fB5 nb5 (by omega)
 clear hW7
 have b7_1 := ot7 _ _ (by omega) b5_1
 have b7_2 := ot7 _ _ (by omega) b5_2
 have b7_3 := ot7 _ _ (by omega) b5_3
 have b7_4 := ot7 _ _ (by omega) b5_4
 have q28' := (q22'.other ot7 q23' (by omega) z7)
 have q29' := Nat.lt_of_lt_of_le q23' z7
 have q30' := (q24'.other ot7 q25' (by omega) z7)
 have q31' := Nat.lt_of_lt_of_le q25' z7
 have q32' := (q26'.other ot7 q27' (by omega) z7)
 have q33' := Nat.lt_of_lt_of_le q27' z7
 refine wpOps_end ?_
 refine hK2 _ _ ?_
 refine wp_seq_k fun K3 hK3 => ?_
 refine region_dk 1 [(18, 0)] [[], [0]] (rel [is (.agg #[.int .i64 b.tab, .slice (some ⟨g1', 0, none⟩) ((b.panels).length) (c2'), .int .i64 b.height, .slice (some ⟨g6', 0, none⟩) ((b.top).length) (c7'), .slice (some ⟨g11', 0, none⟩) ((b.bottom).length) (c12'), .int .i64 b.slot, .bool b.isOpen])])
  ⟨is_k, trivial⟩
  ⟨fun f s W c d i j a ha => opv rfl rfl (by simp [go_sem, ha.e 1 k6_1, cb nb7 c 0, cb nb7 c 1, cb nb7 c 2, cb nb7 c 3, cb nb7 c 4, cb nb7 c 5, cb nb7 c 6]) rfl, trivial⟩ ?_
 intro f8 s8 W8 hB8 g8 hg8
 have fB8 := hB8.f fB7
 have z8 := hB8.below.size
 have b8_0 := hB8.b nb7
 have b8_1 := hB8.b b7_1
 have b8_2 := hB8.b b7_2
 have b8_3 := hB8.b b7_3
 have b8_4 := hB8.b b7_4
 have q34' := q28'.bw hB8
 have q35' := (hB8.lt q29')
 have q36' := q30'.bw hB8
 have q37' := (hB8.lt q31')
 have q38' := q32'.bw hB8
 have q39' := (hB8.lt q33')
 have k8_2 := kt hg8 2 k6_2
 have k8_18 := kt hg8 18 (hB8.is 0)
 obtain ⟨W9, hW9⟩ : ∃ W', W' = W8.setRow (s1 1) #[.int .i64 b.tab, .slice (some ⟨g1', 0, none⟩) ((b.panels).length) (c2'), .int .i64 b.height, .slice (some ⟨g6', 0, none⟩) ((b.top).length) (c7'), .slice (some ⟨g11', 0, none⟩) ((b.bottom).length) (c12'), .int .i64 b.slot, .bool b.isOpen] := ⟨_, rfl⟩
 refine tail_skip (o := _) rfl ⟨rfl, rfl⟩ (run_seg hW9 (fr_ev k8_2) (fr_ev k8_18) b8_1 rfl rfl rfl rfl) ?_
 obtain ⟨fB9, nb9, ot9, z9⟩ := seg_facts hW9 fB8 b8_1 (by omega)
 clear hW9
 have b9_0 := ot9 _ _ (by omega) b8_0
 have b9_2 := ot9 _ _ (by omega) b8_2
 have b9_3 := ot9 _ _ (by omega) b8_3
 have b9_4 := ot9 _ _ (by omega) b8_4
 have q40' := (q34'.other ot9 q35' (by omega) z9)
 have q41' := Nat.lt_of_lt_of_le q35' z9
 have q42' := (q36'.other ot9 q37' (by omega) z9)
 have q43' := Nat.lt_of_lt_of_le q37' z9
 have q44' := (q38'.other ot9 q39' (by omega) z9)
 have q45' := Nat.lt_of_lt_of_le q39' z9
 refine wpOps_end ?_
 refine hK3 _ _ ?_
 refine wp_ret ?_
 refine leave_gen (v := .agg #[.int .i64 b.tab, .slice (some ⟨g1', 0, none⟩) ((b.panels).length) (c2'), .int .i64 b.height, .slice (some ⟨g6', 0, none⟩) ((b.top).length) (c7'), .slice (some ⟨g11', 0, none⟩) ((b.bottom).length) (c12'), .int .i64 b.slot, .bool b.isOpen]) (.inr rfl) (by simp [results, Tryz.results48, go_sem, frv 19 k8_2, cl nb9 0, cl nb9 1, cl nb9 2, cl nb9 3, cl nb9 4, cl nb9 5, cl nb9 6]) ?_
 exact ⟨_, rfl, ⟨_, _, _, _, _, _, rfl, ⟨q40', by omega, q41'⟩, ⟨q42', by omega, q43'⟩, ⟨q44', by omega, q45'⟩⟩, fB9⟩
end Go.Proofs.YthnediamopehfaaGreat
namespace Go.Proofs.YthnediamopehfaaGreat
open Go.RowKit
def refLens (b : Bl) : Bool := (((b.panels.length : Int) != 4) || ((b.top.length : Int) != 2)) || ((b.bottom.length : Int) != 2)
def refNums (b : Bl) : Bool := (((((!(inB b.tab 0 100)) || (!(longB b.panels 1))) || (!(inB b.height 1 3000))) || (!(longB b.top 0))) || (!(longB b.bottom 0))) || (!(inB b.slot 0 20))
def refOpen (b : Bl) : Bool := b.isOpen && ((b.top.getD 0 0 != 0) || (b.top.getD 1 0 != 0))
def refCheck (b : Bl) : Int := if refLens b = true then 4 else if refNums b = true then 2 else if refOpen b = true then 2 else 0
set_option maxRecDepth 100000 in
set_option maxHeartbeats 400000 in
theorem refCheck_any (a1 a2 a3 : Option Addr) (c1 c2 c3 : Nat) (b : Bl) (w : World) (h1 : Ii w a1 b.panels.length c1 b.panels) (h2 : Ii w a2 b.top.length c2 b.top) (h3 : Ii w a3 b.bottom.length c3 b.bottom) :
  Calls Tryz.prog 16 #[.agg #[.int .i64 b.tab, .slice (a1) (b.panels.length) (c1), .int .i64 b.height, .slice (a2) (b.top.length) (c2), .slice (a3) (b.bottom.length) (c3), .int .i64 b.slot, .bool b.isOpen]] w (fun e w' => e = .returned (.int .i64 (refCheck b)) ∧ Below w.heap.size w w') := by
 have hm1 := h1.len_le
 have hm2 := h2.len_le
 have hm3 := h3.len_le
 refine calls_fr Tryz.func16 Tryz.ntmps16 rfl rfl fun g hg => ?_
 have k0 : g 0 = .agg #[.int .i64 b.tab, .slice (a1) (b.panels.length) (c1), .int .i64 b.height, .slice (a2) (b.top.length) (c2), .slice (a3) (b.bottom.length) (c3), .int .i64 b.slot, .bool b.isOpen] := hg 0
 clear hg
 have fB0 : Below w.heap.size w w := Below.refl _ _
 refine wp_seq_k fun K1 hK1 => ?_
 refine region_dk 2 [(1, 0), (2, 1)] [[], []] (rel [bx 0 #[.int .i64 b.tab, .slice (a1) (b.panels.length) (c1), .int .i64 b.height, .slice (a2) (b.top.length) (c2), .slice (a3) (b.bottom.length) (c3), .int .i64 b.slot, .bool b.isOpen] 24,
   is (.int .i64 0)])
  ⟨bx_k, is_k, trivial⟩
  ⟨fun f s W h i j k a ha => opb rfl rfl (by simp [go_sem, ha.e 0 k0]),
  fun f s W h i j k a ha => opv rfl rfl (by simp [go_sem]) rfl, trivial⟩ ?_
 intro f1 s1 W1 hB1 g1 hg1
 have fB1 := hB1.f fB0
 have z1 := hB1.below.size
 obtain ⟨r1_0, br1_0⟩ := hB1.is 0
 have lr1_0 := hB1.lr 0 br1_0
 refine hK1 _ _ ?_
 have k1_1 := kt hg1 1 r1_0
 have k1_2 := kt hg1 2 (hB1.is 1)
 refine wp_seq_k fun K2 hK2 => ?_
 refine wp_seq_k fun K3 hK3 => ?_
 refine region_dk 16 [(3, 0), (4, 1), (5, 2), (6, 3), (7, 4), (8, 5), (9, 6), (10, 7), (11, 8), (12, 9), (13, 10), (14, 11), (15, 12), (16, 13), (17, 14), (18, 15)] [[], [0], [0, 1], [0, 1, 2], [0, 1, 2, 3], [0, 1, 2, 3, 4], [0, 1, 2, 3, 4, 5], [0, 1, 2, 3, 4, 5, 6], [0, 1, 2, 3, 4, 5, 6, 7], [0, 1, 2, 3, 4, 5, 6, 7, 8], [0, 1, 2, 3, 4, 5, 6, 7, 8, 9], [0, 1, 2, 3, 4, 5, 6, 7, 8, 9, 10], [0, 1, 2, 3, 4, 5, 6, 7, 8, 9, 10, 11], [0, 1, 2, 3, 4, 5, 6, 7, 8, 9, 10, 11, 12], [0, 1, 2, 3, 4, 5, 6, 7, 8, 9, 10, 11, 12, 13], [0, 1, 2, 3, 4, 5, 6, 7, 8, 9, 10, 11, 12, 13, 14]] (rel [is (.pointer (some ⟨(s1 0), 1, none⟩)),
   is (.slice (a1) (b.panels.length) (c1)),
   is (.int .i64 ((b.panels.length : Int))),
   is (.bool ((b.panels.length : Int) != 4)),
   is (.bool ((b.panels.length : Int) != 4)),
   gd ((b.panels.length : Int) != 4) false (is (.pointer (some ⟨(s1 0), 3, none⟩))),
   gd ((b.panels.length : Int) != 4) false (is (.slice (a2) (b.top.length) (c2))),
   gd ((b.panels.length : Int) != 4) false (is (.int .i64 ((b.top.length : Int)))),
   gd ((b.panels.length : Int) != 4) false (is (.bool ((b.top.length : Int) != 2))),
   is (.bool (((b.panels.length : Int) != 4) || ((b.top.length : Int) != 2))),
   is (.bool (((b.panels.length : Int) != 4) || ((b.top.length : Int) != 2))),
   gd (((b.panels.length : Int) != 4) || ((b.top.length : Int) != 2)) false (is (.pointer (some ⟨(s1 0), 4, none⟩))),
   gd (((b.panels.length : Int) != 4) || ((b.top.length : Int) != 2)) false (is (.slice (a3) (b.bottom.length) (c3))),
   gd (((b.panels.length : Int) != 4) || ((b.top.length : Int) != 2)) false (is (.int .i64 ((b.bottom.length : Int)))),
   gd (((b.panels.length : Int) != 4) || ((b.top.length : Int) != 2)) false (is (.bool ((b.bottom.length : Int) != 2))),
   is (.bool ((((b.panels.length : Int) != 4) || ((b.top.length : Int) != 2)) || ((b.bottom.length : Int) != 2)))])
  ⟨is_k, is_k, is_k, is_k, is_k, gd_k (is_k), gd_k (is_k), gd_k (is_k), gd_k (is_k), is_k, is_k, gd_k (is_k), gd_k (is_k), gd_k (is_k), gd_k (is_k), is_k, trivial⟩
  ⟨fun f s W h i j k a ha => opv rfl rfl (by simp [go_sem, ha.e 1 k1_1]) rfl,
  fun f s W h i j k a ha => opv rfl rfl (by simp [go_sem, ha.e 3 (i 0 rfl), cb br1_0 h 1]) rfl,
  fun f s W h i j k a ha => opv rfl rfl (by simp [go_sem, ha.e 4 (i 1 rfl)]) rfl,
  fun f s W h i j k a ha => opv rfl rfl (by simp [go_sem, ha.e 5 (i 2 rfl)]) rfl,
  fun f s W h i j k a ha => opv rfl rfl (by simp [go_sem, ha.e 6 (i 3 rfl)]) rfl,
  fun f s W h i j k a ha => gdo rfl rfl (ha.says (d := 7) rfl rfl (i 4 rfl)) fun hgd0 => gv (by simp [go_sem, ha.e 1 k1_1]) rfl,
  fun f s W h i j k a ha => gdo rfl rfl (ha.says (d := 7) rfl rfl (i 4 rfl)) fun hgd0 => gv (by simp [go_sem, ha.e 8 ((i 5 rfl).1 hgd0), cb br1_0 h 3]) rfl,
  fun f s W h i j k a ha => gdo rfl rfl (ha.says (d := 7) rfl rfl (i 4 rfl)) fun hgd0 => gv (by simp [go_sem, ha.e 9 ((i 6 rfl).1 hgd0)]) rfl,
  fun f s W h i j k a ha => gdo rfl rfl (ha.says (d := 7) rfl rfl (i 4 rfl)) fun hgd0 => gv (by simp [go_sem, ha.e 10 ((i 7 rfl).1 hgd0)]) rfl,
  fun f s W h i j k a ha => opk (c := (b.panels.length : Int) != 4) rfl rfl (fun hpk => by first | (simp [go_sem, hpk, ha.e 7 (i 4 rfl), ha.e 11 ((i 8 rfl).1 hpk)]; done) | (have hpk' := hpk; simp at hpk'; simp [go_sem, hpk', hpk, ha.e 7 (i 4 rfl), ha.e 11 ((i 8 rfl).1 hpk)])) (fun hpk => by first | (simp [go_sem, hpk, ha.e 7 (i 4 rfl)]; done) | (have hpk' := hpk; simp at hpk'; simp [go_sem, hpk', hpk, ha.e 7 (i 4 rfl)])),
  fun f s W h i j k a ha => opv rfl rfl (by simp [go_sem, ha.e 12 (i 9 rfl)]) rfl,
  fun f s W h i j k a ha => gdo rfl rfl (ha.says (d := 13) rfl rfl (i 10 rfl)) fun hgd0 => gv (by simp [go_sem, ha.e 1 k1_1]) rfl,
  fun f s W h i j k a ha => gdo rfl rfl (ha.says (d := 13) rfl rfl (i 10 rfl)) fun hgd0 => gv (by simp [go_sem, ha.e 14 ((i 11 rfl).1 hgd0), cb br1_0 h 4]) rfl,
  fun f s W h i j k a ha => gdo rfl rfl (ha.says (d := 13) rfl rfl (i 10 rfl)) fun hgd0 => gv (by simp [go_sem, ha.e 15 ((i 12 rfl).1 hgd0)]) rfl,
  fun f s W h i j k a ha => gdo rfl rfl (ha.says (d := 13) rfl rfl (i 10 rfl)) fun hgd0 => gv (by simp [go_sem, ha.e 16 ((i 13 rfl).1 hgd0)]) rfl,
  fun f s W h i j k a ha => opk (c := ((b.panels.length : Int) != 4) || ((b.top.length : Int) != 2)) rfl rfl (fun hpk => by first | (simp [go_sem, hpk, ha.e 13 (i 10 rfl), ha.e 17 ((i 14 rfl).1 hpk)]; done) | (have hpk' := hpk; simp at hpk'; simp [go_sem, hpk', hpk, ha.e 13 (i 10 rfl), ha.e 17 ((i 14 rfl).1 hpk)])) (fun hpk => by first | (simp [go_sem, hpk, ha.e 13 (i 10 rfl)]; done) | (have hpk' := hpk; simp at hpk'; simp [go_sem, hpk', hpk, ha.e 13 (i 10 rfl)])), trivial⟩ ?_
 intro f2 s2 W2 hB2 g2 hg2
 have fB2 := hB2.f fB1
 have z2 := hB2.below.size
 have b2_0 := hB2.b br1_0
 refine hK3 _ _ ?_
 have k2_1 := kt hg2 1 k1_1
 have k2_2 := kt hg2 2 k1_2
 have k2_18 := kt hg2 18 (hB2.is 15)
 refine wp_cond_split (t := (((b.panels.length : Int) != 4) || ((b.top.length : Int) != 2)) || ((b.bottom.length : Int) != 2)) ((fr_eval rfl).trans k2_18) (fun hc4 => ?_) (fun hc4 => ?_)
 ·
  have hc4' := hc4; try simp only [ba] at hc4'
  refine wp_seq_k fun K5 hK5 => ?_
  refine region_dk 1 [(2, 0)] [[]] (rel [is (.int .i64 4)])
   ⟨is_k, trivial⟩
   ⟨fun f s W h i j k a ha => opv rfl rfl (by simp [go_sem]) rfl, trivial⟩ ?_
  intro f3 s3 W3 hB3 g3 hg3
  have fB3 := hB3.f fB2
  have z3 := hB3.below.size
  have b3_0 := hB3.b b2_0
  refine hK5 _ _ ?_
  have k3_1 := kt hg3 1 k2_1
  have k3_2 := kt hg3 2 (hB3.is 0)
  refine wp_ret ?_
  refine then_ret ?_
  refine leave_one (N := 69) (v := .int .i64 4) (.inr rfl) Tryz.results16 rfl k3_2 ?_
  have t0 : refLens b = true := hc4
  exact ⟨by simp [refCheck, t0], fB3⟩
 ·
  have hc4' := hc4; try simp only [ba] at hc4'
  have hl2 : b.top.length = 2 := by omega
  obtain ⟨q2, o2, hq2, hql2, hqc2⟩ := h2.at (by omega)
  refine wp_skip ?_
  refine hK2 _ _ ?_
  refine wp_seq_k fun K6 hK6 => ?_
  refine wp_seq_k fun K7 hK7 => ?_
  refine region_dk 34 [(19, 0), (20, 1), (21, 2), (22, 3), (23, 4), (24, 5), (25, 6), (26, 7), (27, 8), (28, 9), (29, 10), (30, 11), (31, 12), (32, 13), (33, 14), (34, 15), (35, 16), (36, 17), (37, 18), (38, 19), (39, 20), (40, 21), (41, 22), (42, 23), (43, 24), (44, 25), (45, 26), (46, 27), (47, 28), (48, 29), (49, 30), (50, 31), (51, 32), (52, 33)] [[], [0], [0, 1], [0, 1, 2], [0, 1, 2, 3], [0, 1, 2, 3, 4], [0, 1, 2, 3, 4, 5], [0, 1, 2, 3, 4, 5, 6], [0, 1, 2, 3, 4, 5, 6, 7], [0, 1, 2, 3, 4, 5, 6, 7, 8], [0, 1, 2, 3, 4, 5, 6, 7, 8, 9], [0, 1, 2, 3, 4, 5, 6, 7, 8, 9, 10], [0, 1, 2, 3, 4, 5, 6, 7, 8, 9, 10, 11], [0, 1, 2, 3, 4, 5, 6, 7, 8, 9, 10, 11, 12], [0, 1, 2, 3, 4, 5, 6, 7, 8, 9, 10, 11, 12, 13], [0, 1, 2, 3, 4, 5, 6, 7, 8, 9, 10, 11, 12, 13, 14], [0, 1, 2, 3, 4, 5, 6, 7, 8, 9, 10, 11, 12, 13, 14, 15], [0, 1, 2, 3, 4, 5, 6, 7, 8, 9, 10, 11, 12, 13, 14, 15, 16], [0, 1, 2, 3, 4, 5, 6, 7, 8, 9, 10, 11, 12, 13, 14, 15, 16, 17], [0, 1, 2, 3, 4, 5, 6, 7, 8, 9, 10, 11, 12, 13, 14, 15, 16, 17, 18], [0, 1, 2, 3, 4, 5, 6, 7, 8, 9, 10, 11, 12, 13, 14, 15, 16, 17, 18, 19], [0, 1, 2, 3, 4, 5, 6, 7, 8, 9, 10, 11, 12, 13, 14, 15, 16, 17, 18, 19, 20], [0, 1, 2, 3, 4, 5, 6, 7, 8, 9, 10, 11, 12, 13, 14, 15, 16, 17, 18, 19, 20, 21], [0, 1, 2, 3, 4, 5, 6, 7, 8, 9, 10, 11, 12, 13, 14, 15, 16, 17, 18, 19, 20, 21, 22], [0, 1, 2, 3, 4, 5, 6, 7, 8, 9, 10, 11, 12, 13, 14, 15, 16, 17, 18, 19, 20, 21, 22, 23], [0, 1, 2, 3, 4, 5, 6, 7, 8, 9, 10, 11, 12, 13, 14, 15, 16, 17, 18, 19, 20, 21, 22, 23, 24], [0, 1, 2, 3, 4, 5, 6, 7, 8, 9, 10, 11, 12, 13, 14, 15, 16, 17, 18, 19, 20, 21, 22, 23, 24, 25], [0, 1, 2, 3, 4, 5, 6, 7, 8, 9, 10, 11, 12, 13, 14, 15, 16, 17, 18, 19, 20, 21, 22, 23, 24, 25, 26], [0, 1, 2, 3, 4, 5, 6, 7, 8, 9, 10, 11, 12, 13, 14, 15, 16, 17, 18, 19, 20, 21, 22, 23, 24, 25, 26, 27], [0, 1, 2, 3, 4, 5, 6, 7, 8, 9, 10, 11, 12, 13, 14, 15, 16, 17, 18, 19, 20, 21, 22, 23, 24, 25, 26, 27, 28], [0, 1, 2, 3, 4, 5, 6, 7, 8, 9, 10, 11, 12, 13, 14, 15, 16, 17, 18, 19, 20, 21, 22, 23, 24, 25, 26, 27, 28, 29], [0, 1, 2, 3, 4, 5, 6, 7, 8, 9, 10, 11, 12, 13, 14, 15, 16, 17, 18, 19, 20, 21, 22, 23, 24, 25, 26, 27, 28, 29, 30], [0, 1, 2, 3, 4, 5, 6, 7, 8, 9, 10, 11, 12, 13, 14, 15, 16, 17, 18, 19, 20, 21, 22, 23, 24, 25, 26, 27, 28, 29, 30, 31], [0, 1, 2, 3, 4, 5, 6, 7, 8, 9, 10, 11, 12, 13, 14, 15, 16, 17, 18, 19, 20, 21, 22, 23, 24, 25, 26, 27, 28, 29, 30, 31, 32]] (rel [is (.pointer (some ⟨(s1 0), 0, none⟩)),
   is (.int .i64 b.tab),
   is (.bool (inB b.tab 0 100)),
   is (.bool (!(inB b.tab 0 100))),
   is (.bool (!(inB b.tab 0 100))),
   gd (!(inB b.tab 0 100)) false (is (.pointer (some ⟨(s1 0), 1, none⟩))),
   gd (!(inB b.tab 0 100)) false (is (.slice (a1) (b.panels.length) (c1))),
   gd (!(inB b.tab 0 100)) false (is (.bool (longB b.panels 1))),
   gd (!(inB b.tab 0 100)) false (is (.bool (!(longB b.panels 1)))),
   is (.bool ((!(inB b.tab 0 100)) || (!(longB b.panels 1)))),
   is (.bool ((!(inB b.tab 0 100)) || (!(longB b.panels 1)))),
   gd ((!(inB b.tab 0 100)) || (!(longB b.panels 1))) false (is (.pointer (some ⟨(s1 0), 2, none⟩))),
   gd ((!(inB b.tab 0 100)) || (!(longB b.panels 1))) false (is (.int .i64 b.height)),
   gd ((!(inB b.tab 0 100)) || (!(longB b.panels 1))) false (is (.bool (inB b.height 1 3000))),
   gd ((!(inB b.tab 0 100)) || (!(longB b.panels 1))) false (is (.bool (!(inB b.height 1 3000)))),
   is (.bool (((!(inB b.tab 0 100)) || (!(longB b.panels 1))) || (!(inB b.height 1 3000)))),
   is (.bool (((!(inB b.tab 0 100)) || (!(longB b.panels 1))) || (!(inB b.height 1 3000)))),
   gd (((!(inB b.tab 0 100)) || (!(longB b.panels 1))) || (!(inB b.height 1 3000))) false (is (.pointer (some ⟨(s1 0), 3, none⟩))),
   gd (((!(inB b.tab 0 100)) || (!(longB b.panels 1))) || (!(inB b.height 1 3000))) false (is (.slice (a2) (b.top.length) (c2))),
   gd (((!(inB b.tab 0 100)) || (!(longB b.panels 1))) || (!(inB b.height 1 3000))) false (is (.bool (longB b.top 0))),
   gd (((!(inB b.tab 0 100)) || (!(longB b.panels 1))) || (!(inB b.height 1 3000))) false (is (.bool (!(longB b.top 0)))),
   is (.bool ((((!(inB b.tab 0 100)) || (!(longB b.panels 1))) || (!(inB b.height 1 3000))) || (!(longB b.top 0)))),
   is (.bool ((((!(inB b.tab 0 100)) || (!(longB b.panels 1))) || (!(inB b.height 1 3000))) || (!(longB b.top 0)))),
   gd ((((!(inB b.tab 0 100)) || (!(longB b.panels 1))) || (!(inB b.height 1 3000))) || (!(longB b.top 0))) false (is (.pointer (some ⟨(s1 0), 4, none⟩))),
   gd ((((!(inB b.tab 0 100)) || (!(longB b.panels 1))) || (!(inB b.height 1 3000))) || (!(longB b.top 0))) false (is (.slice (a3) (b.bottom.length) (c3))),
   gd ((((!(inB b.tab 0 100)) || (!(longB b.panels 1))) || (!(inB b.height 1 3000))) || (!(longB b.top 0))) false (is (.bool (longB b.bottom 0))),
   gd ((((!(inB b.tab 0 100)) || (!(longB b.panels 1))) || (!(inB b.height 1 3000))) || (!(longB b.top 0))) false (is (.bool (!(longB b.bottom 0)))),
   is (.bool (((((!(inB b.tab 0 100)) || (!(longB b.panels 1))) || (!(inB b.height 1 3000))) || (!(longB b.top 0))) || (!(longB b.bottom 0)))),
   is (.bool (((((!(inB b.tab 0 100)) || (!(longB b.panels 1))) || (!(inB b.height 1 3000))) || (!(longB b.top 0))) || (!(longB b.bottom 0)))),
   gd (((((!(inB b.tab 0 100)) || (!(longB b.panels 1))) || (!(inB b.height 1 3000))) || (!(longB b.top 0))) || (!(longB b.bottom 0))) false (is (.pointer (some ⟨(s1 0), 5, none⟩))),
   gd (((((!(inB b.tab 0 100)) || (!(longB b.panels 1))) || (!(inB b.height 1 3000))) || (!(longB b.top 0))) || (!(longB b.bottom 0))) false (is (.int .i64 b.slot)),
   gd (((((!(inB b.tab 0 100)) || (!(longB b.panels 1))) || (!(inB b.height 1 3000))) || (!(longB b.top 0))) || (!(longB b.bottom 0))) false (is (.bool (inB b.slot 0 20))),
   gd (((((!(inB b.tab 0 100)) || (!(longB b.panels 1))) || (!(inB b.height 1 3000))) || (!(longB b.top 0))) || (!(longB b.bottom 0))) false (is (.bool (!(inB b.slot 0 20)))),
   is (.bool ((((((!(inB b.tab 0 100)) || (!(longB b.panels 1))) || (!(inB b.height 1 3000))) || (!(longB b.top 0))) || (!(longB b.bottom 0))) || (!(inB b.slot 0 20))))])
   ⟨is_k, is_k, is_k, is_k, is_k, gd_k (is_k), gd_k (is_k), gd_k (is_k), gd_k (is_k), is_k, is_k, gd_k (is_k), gd_k (is_k), gd_k (is_k), gd_k (is_k), is_k, is_k, gd_k (is_k), gd_k (is_k), gd_k (is_k), gd_k (is_k), is_k, is_k, gd_k (is_k), gd_k (is_k), gd_k (is_k), gd_k (is_k), is_k, is_k, gd_k (is_k), gd_k (is_k), gd_k (is_k), gd_k (is_k), is_k, trivial⟩
   ⟨fun f s W h i j k a ha => opv rfl rfl (by simp [go_sem, ha.e 1 k2_1]) rfl,
  fun f s W h i j k a ha => opv rfl rfl (by simp [go_sem, ha.e 19 (i 0 rfl), cb b2_0 h 0]) rfl,
  fun f s W h i j k a ha => opc (args := #[.int .i64 b.tab, .int .i64 0, .int .i64 100]) rfl rfl (by simp [go_sem, ha.e 20 (i 1 rfl)]) (in_any _ _ _ W),
  fun f s W h i j k a ha => opv rfl rfl (by simp [go_sem, ha.e 21 (i 2 rfl)]) rfl,
  fun f s W h i j k a ha => opv rfl rfl (by simp [go_sem, ha.e 22 (i 3 rfl)]) rfl,
  fun f s W h i j k a ha => gdo rfl rfl (ha.says (d := 23) rfl rfl (i 4 rfl)) fun hgd0 => gv (by simp [go_sem, ha.e 1 k2_1]) rfl,
  fun f s W h i j k a ha => gdo rfl rfl (ha.says (d := 23) rfl rfl (i 4 rfl)) fun hgd0 => gv (by simp [go_sem, ha.e 24 ((i 5 rfl).1 hgd0), cb b2_0 h 1]) rfl,
  fun f s W h i j k a ha => gdo rfl rfl (ha.says (d := 23) rfl rfl (i 4 rfl)) fun hgd0 => by have l := below_trans fB2 h; exact gc (args := #[.slice (a1) (b.panels.length) (c1), .int .i64 1]) (by simp [go_sem, ha.e 25 ((i 6 rfl).1 hgd0)]) (long_any _ _ b.panels 1 W (h1.below l (Nat.le_refl _))),
  fun f s W h i j k a ha => gdo rfl rfl (ha.says (d := 23) rfl rfl (i 4 rfl)) fun hgd0 => gv (by simp [go_sem, ha.e 26 ((i 7 rfl).1 hgd0)]) rfl,
  fun f s W h i j k a ha => opk (c := !(inB b.tab 0 100)) rfl rfl (fun hpk => by simp [go_sem, hpk, ha.e 23 (i 4 rfl), ha.e 27 ((i 8 rfl).1 hpk)]) (fun hpk => by simp [go_sem, hpk, ha.e 23 (i 4 rfl)]),
  fun f s W h i j k a ha => opv rfl rfl (by simp [go_sem, ha.e 28 (i 9 rfl)]) rfl,
  fun f s W h i j k a ha => gdo rfl rfl (ha.says (d := 29) rfl rfl (i 10 rfl)) fun hgd0 => gv (by simp [go_sem, ha.e 1 k2_1]) rfl,
  fun f s W h i j k a ha => gdo rfl rfl (ha.says (d := 29) rfl rfl (i 10 rfl)) fun hgd0 => gv (by simp [go_sem, ha.e 30 ((i 11 rfl).1 hgd0), cb b2_0 h 2]) rfl,
  fun f s W h i j k a ha => gdo rfl rfl (ha.says (d := 29) rfl rfl (i 10 rfl)) fun hgd0 => gc (args := #[.int .i64 b.height, .int .i64 1, .int .i64 3000]) (by simp [go_sem, ha.e 31 ((i 12 rfl).1 hgd0)]) (in_any _ _ _ W),
  fun f s W h i j k a ha => gdo rfl rfl (ha.says (d := 29) rfl rfl (i 10 rfl)) fun hgd0 => gv (by simp [go_sem, ha.e 32 ((i 13 rfl).1 hgd0)]) rfl,
  fun f s W h i j k a ha => opk (c := (!(inB b.tab 0 100)) || (!(longB b.panels 1))) rfl rfl (fun hpk => by simp [go_sem, hpk, ha.e 29 (i 10 rfl), ha.e 33 ((i 14 rfl).1 hpk)]) (fun hpk => by simp [go_sem, hpk, ha.e 29 (i 10 rfl)]),
  fun f s W h i j k a ha => opv rfl rfl (by simp [go_sem, ha.e 34 (i 15 rfl)]) rfl,
  fun f s W h i j k a ha => gdo rfl rfl (ha.says (d := 35) rfl rfl (i 16 rfl)) fun hgd0 => gv (by simp [go_sem, ha.e 1 k2_1]) rfl,
  fun f s W h i j k a ha => gdo rfl rfl (ha.says (d := 35) rfl rfl (i 16 rfl)) fun hgd0 => gv (by simp [go_sem, ha.e 36 ((i 17 rfl).1 hgd0), cb b2_0 h 3]) rfl,
  fun f s W h i j k a ha => gdo rfl rfl (ha.says (d := 35) rfl rfl (i 16 rfl)) fun hgd0 => by have l := below_trans fB2 h; exact gc (args := #[.slice (a2) (b.top.length) (c2), .int .i64 0]) (by simp [go_sem, ha.e 37 ((i 18 rfl).1 hgd0)]) (long_any _ _ b.top 0 W (h2.below l (Nat.le_refl _))),
  fun f s W h i j k a ha => gdo rfl rfl (ha.says (d := 35) rfl rfl (i 16 rfl)) fun hgd0 => gv (by simp [go_sem, ha.e 38 ((i 19 rfl).1 hgd0)]) rfl,
  fun f s W h i j k a ha => opk (c := ((!(inB b.tab 0 100)) || (!(longB b.panels 1))) || (!(inB b.height 1 3000))) rfl rfl (fun hpk => by simp [go_sem, hpk, ha.e 35 (i 16 rfl), ha.e 39 ((i 20 rfl).1 hpk)]) (fun hpk => by simp [go_sem, hpk, ha.e 35 (i 16 rfl)]),
  fun f s W h i j k a ha => opv rfl rfl (by simp [go_sem, ha.e 40 (i 21 rfl)]) rfl,
  fun f s W h i j k a ha => gdo rfl rfl (ha.says (d := 41) rfl rfl (i 22 rfl)) fun hgd0 => gv (by simp [go_sem, ha.e 1 k2_1]) rfl,
  fun f s W h i j k a ha => gdo rfl rfl (ha.says (d := 41) rfl rfl (i 22 rfl)) fun hgd0 => gv (by simp [go_sem, ha.e 42 ((i 23 rfl).1 hgd0), cb b2_0 h 4]) rfl,
  fun f s W h i j k a ha => gdo rfl rfl (ha.says (d := 41) rfl rfl (i 22 rfl)) fun hgd0 => by have l := below_trans fB2 h; exact gc (args := #[.slice (a3) (b.bottom.length) (c3), .int .i64 0]) (by simp [go_sem, ha.e 43 ((i 24 rfl).1 hgd0)]) (long_any _ _ b.bottom 0 W (h3.below l (Nat.le_refl _))),
  fun f s W h i j k a ha => gdo rfl rfl (ha.says (d := 41) rfl rfl (i 22 rfl)) fun hgd0 => gv (by simp [go_sem, ha.e 44 ((i 25 rfl).1 hgd0)]) rfl,
  fun f s W h i j k a ha => opk (c := (((!(inB b.tab 0 100)) || (!(longB b.panels 1))) || (!(inB b.height 1 3000))) || (!(longB b.top 0))) rfl rfl (fun hpk => by simp [go_sem, hpk, ha.e 41 (i 22 rfl), ha.e 45 ((i 26 rfl).1 hpk)]) (fun hpk => by simp [go_sem, hpk, ha.e 41 (i 22 rfl)]),
  fun f s W h i j k a ha => opv rfl rfl (by simp [go_sem, ha.e 46 (i 27 rfl)]) rfl,
  fun f s W h i j k a ha => gdo rfl rfl (ha.says (d := 47) rfl rfl (i 28 rfl)) fun hgd0 => gv (by simp [go_sem, ha.e 1 k2_1]) rfl,
  fun f s W h i j k a ha => gdo rfl rfl (ha.says (d := 47) rfl rfl (i 28 rfl)) fun hgd0 => gv (by simp [go_sem, ha.e 48 ((i 29 rfl).1 hgd0), cb b2_0 h 5]) rfl,
  fun f s W h i j k a ha => gdo rfl rfl (ha.says (d := 47) rfl rfl (i 28 rfl)) fun hgd0 => gc (args := #[.int .i64 b.slot, .int .i64 0, .int .i64 20]) (by simp [go_sem, ha.e 49 ((i 30 rfl).1 hgd0)]) (in_any _ _ _ W),
  fun f s W h i j k a ha => gdo rfl rfl (ha.says (d := 47) rfl rfl (i 28 rfl)) fun hgd0 => gv (by simp [go_sem, ha.e 50 ((i 31 rfl).1 hgd0)]) rfl,
  fun f s W h i j k a ha => opk (c := ((((!(inB b.tab 0 100)) || (!(longB b.panels 1))) || (!(inB b.height 1 3000))) || (!(longB b.top 0))) || (!(longB b.bottom 0))) rfl rfl (fun hpk => by simp [go_sem, hpk, ha.e 47 (i 28 rfl), ha.e 51 ((i 32 rfl).1 hpk)]) (fun hpk => by simp [go_sem, hpk, ha.e 47 (i 28 rfl)]), trivial⟩ ?_
  intro f4 s4 W4 hB4 g4 hg4
  have fB4 := hB4.f fB2
  have z4 := hB4.below.size
  have b4_0 := hB4.b b2_0
  refine hK7 _ _ ?_
  have k4_1 := kt hg4 1 k2_1
  have k4_2 := kt hg4 2 k2_2
  have k4_52 := kt hg4 52 (hB4.is 33)
  refine wp_cond_split (t := (((((!(inB b.tab 0 100)) || (!(longB b.panels 1))) || (!(inB b.height 1 3000))) || (!(longB b.top 0))) || (!(longB b.bottom 0))) || (!(inB b.slot 0 20))) ((fr_eval rfl).trans k4_52) (fun hc8 => ?_) (fun hc8 => ?_)
  ·
   have hc8' := hc8; try simp only [ba] at hc8'
   refine wp_seq_k fun K9 hK9 => ?_
   refine region_dk 1 [(2, 0)] [[]] (rel [is (.int .i64 2)])
    ⟨is_k, trivial⟩
    ⟨fun f s W h i j k a ha => opv rfl rfl (by simp [go_sem]) rfl, trivial⟩ ?_
   intro f5 s5 W5 hB5 g5 hg5
   have fB5 := hB5.f fB4
   have z5 := hB5.below.size
   have b5_0 := hB5.b b4_0
   refine hK9 _ _ ?_
   have k5_1 := kt hg5 1 k4_1
   have k5_2 := kt hg5 2 (hB5.is 0)
   refine wp_ret ?_
   refine then_ret ?_
   refine leave_one (N := 69) (v := .int .i64 2) (.inr rfl) Tryz.results16 rfl k5_2 ?_
   have t0 : refLens b = false := hc4
   have t1 : refNums b = true := hc8
   exact ⟨by simp [refCheck, t0, t1], fB5⟩
  ·
   have hc8' := hc8; try simp only [ba] at hc8'
   refine wp_skip ?_
   refine hK6 _ _ ?_
   refine wp_seq_k fun K10 hK10 => ?_
   refine wp_seq_k fun K11 hK11 => ?_
   refine region_dk 16 [(53, 0), (54, 1), (55, 2), (56, 3), (57, 4), (58, 5), (59, 6), (60, 7), (61, 8), (62, 9), (63, 10), (64, 11), (65, 12), (66, 13), (67, 14), (68, 15)] [[], [0], [0, 1], [0, 1, 2], [0, 1, 2, 3], [0, 1, 2, 3, 4], [0, 1, 2, 3, 4, 5], [0, 1, 2, 3, 4, 5, 6], [0, 1, 2, 3, 4, 5, 6, 7], [0, 1, 2, 3, 4, 5, 6, 7, 8], [0, 1, 2, 3, 4, 5, 6, 7, 8, 9], [0, 1, 2, 3, 4, 5, 6, 7, 8, 9, 10], [0, 1, 2, 3, 4, 5, 6, 7, 8, 9, 10, 11], [0, 1, 2, 3, 4, 5, 6, 7, 8, 9, 10, 11, 12], [0, 1, 2, 3, 4, 5, 6, 7, 8, 9, 10, 11, 12, 13], [0, 1, 2, 3, 4, 5, 6, 7, 8, 9, 10, 11, 12, 13, 14]] (rel [is (.pointer (some ⟨(s1 0), 6, none⟩)),
   is (.bool b.isOpen),
   is (.bool b.isOpen),
   gd (b.isOpen) true (is (.pointer (some ⟨(s1 0), 3, none⟩))),
   gd (b.isOpen) true (is (.slice (a2) (b.top.length) (c2))),
   gd (b.isOpen) true (is (.pointer (some ⟨q2, o2, none⟩))),
   gd (b.isOpen) true (is (.int .i64 ((b.top.getD 0 0)))),
   gd (b.isOpen) true (is (.bool ((b.top.getD 0 0) != 0))),
   gd (b.isOpen) true (is (.bool ((b.top.getD 0 0) != 0))),
   gd (b.isOpen) true (gd ((b.top.getD 0 0) != 0) false (is (.pointer (some ⟨(s1 0), 3, none⟩)))),
   gd (b.isOpen) true (gd ((b.top.getD 0 0) != 0) false (is (.slice (a2) (b.top.length) (c2)))),
   gd (b.isOpen) true (gd ((b.top.getD 0 0) != 0) false (is (.pointer (some ⟨q2, o2 + 1, none⟩)))),
   gd (b.isOpen) true (gd ((b.top.getD 0 0) != 0) false (is (.int .i64 ((b.top.getD 1 0))))),
   gd (b.isOpen) true (gd ((b.top.getD 0 0) != 0) false (is (.bool ((b.top.getD 1 0) != 0)))),
   gd (b.isOpen) true (is (.bool (((b.top.getD 0 0) != 0) || ((b.top.getD 1 0) != 0)))),
   is (.bool ((b.isOpen) && (((b.top.getD 0 0) != 0) || ((b.top.getD 1 0) != 0))))])
    ⟨is_k, is_k, is_k, gd_k (is_k), gd_k (is_k), gd_k (is_k), gd_k (is_k), gd_k (is_k), gd_k (is_k), gd_k (gd_k (is_k)), gd_k (gd_k (is_k)), gd_k (gd_k (is_k)), gd_k (gd_k (is_k)), gd_k (gd_k (is_k)), gd_k (is_k), is_k, trivial⟩
    ⟨fun f s W h i j k a ha => opv rfl rfl (by simp [go_sem, ha.e 1 k4_1]) rfl,
  fun f s W h i j k a ha => opv rfl rfl (by simp [go_sem, ha.e 53 (i 0 rfl), cb b4_0 h 6]) rfl,
  fun f s W h i j k a ha => opv rfl rfl (by simp [go_sem, ha.e 54 (i 1 rfl)]) rfl,
  fun f s W h i j k a ha => gdo rfl rfl (ha.says (d := 55) rfl rfl (i 2 rfl)) fun hgd0 => gv (by simp [go_sem, ha.e 1 k4_1]) rfl,
  fun f s W h i j k a ha => gdo rfl rfl (ha.says (d := 55) rfl rfl (i 2 rfl)) fun hgd0 => gv (by simp [go_sem, ha.e 56 ((i 3 rfl).1 hgd0), cb b4_0 h 3]) rfl,
  fun f s W h i j k a ha => gdo rfl rfl (ha.says (d := 55) rfl rfl (i 2 rfl)) fun hgd0 => gv (by simp [go_sem, ha.e 57 ((i 4 rfl).1 hgd0), hq2, hl2]) rfl,
  fun f s W h i j k a ha => gdo rfl rfl (ha.says (d := 55) rfl rfl (i 2 rfl)) fun hgd0 => by have l := below_trans fB4 h; have u0 : W.cell? ⟨q2, o2, none⟩ = some (.int .i64 (b.top.getD 0 0)) := (l.cell (p := ⟨q2, o2 + 0, none⟩) hql2).trans (hqc2 0 (by omega)); exact gv (by simp [go_sem, ha.e 58 ((i 5 rfl).1 hgd0), u0]) rfl,
  fun f s W h i j k a ha => gdo rfl rfl (ha.says (d := 55) rfl rfl (i 2 rfl)) fun hgd0 => gv (by simp [go_sem, ha.e 59 ((i 6 rfl).1 hgd0)]) rfl,
  fun f s W h i j k a ha => gdo rfl rfl (ha.says (d := 55) rfl rfl (i 2 rfl)) fun hgd0 => gv (by simp [go_sem, ha.e 60 ((i 7 rfl).1 hgd0)]) rfl,
  fun f s W h i j k a ha => gdo2 rfl rfl ha (d := 61) rfl rfl (i 8 rfl) fun hgd0 hgd1 => gv (by simp [go_sem, ha.e 1 k4_1]) rfl,
  fun f s W h i j k a ha => gdo2 rfl rfl ha (d := 61) rfl rfl (i 8 rfl) fun hgd0 hgd1 => gv (by simp [go_sem, ha.e 62 (((i 9 rfl).1 hgd0).1 hgd1), cb b4_0 h 3]) rfl,
  fun f s W h i j k a ha => gdo2 rfl rfl ha (d := 61) rfl rfl (i 8 rfl) fun hgd0 hgd1 => gv (by simp [go_sem, ha.e 63 (((i 10 rfl).1 hgd0).1 hgd1), hq2, hl2]) rfl,
  fun f s W h i j k a ha => gdo2 rfl rfl ha (d := 61) rfl rfl (i 8 rfl) fun hgd0 hgd1 => by have l := below_trans fB4 h; have u1 : W.cell? ⟨q2, o2 + 1, none⟩ = some (.int .i64 (b.top.getD 1 0)) := (l.cell (p := ⟨q2, o2 + 1, none⟩) hql2).trans (hqc2 1 (by omega)); exact gv (by simp [go_sem, ha.e 64 (((i 11 rfl).1 hgd0).1 hgd1), u1]) rfl,
  fun f s W h i j k a ha => gdo2 rfl rfl ha (d := 61) rfl rfl (i 8 rfl) fun hgd0 hgd1 => gv (by simp [go_sem, ha.e 65 (((i 12 rfl).1 hgd0).1 hgd1)]) rfl,
  fun f s W h i j k a ha => gdo rfl rfl (ha.says (d := 55) rfl rfl (i 2 rfl)) fun hgd0 => gk (c := (b.top.getD 0 0) != 0) (fun hpk => by first | (simp [go_sem, hpk, ha.e 61 ((i 8 rfl).1 hgd0), ha.e 66 (((i 13 rfl).1 hgd0).1 hpk)]; done) | (have hpk' := hpk; simp at hpk'; simp [go_sem, hpk', hpk, ha.e 61 ((i 8 rfl).1 hgd0), ha.e 66 (((i 13 rfl).1 hgd0).1 hpk)])) (fun hpk => by first | (simp [go_sem, hpk, ha.e 61 ((i 8 rfl).1 hgd0)]; done) | (have hpk' := hpk; simp at hpk'; simp [go_sem, hpk', hpk, ha.e 61 ((i 8 rfl).1 hgd0)])),
  fun f s W h i j k a ha => opk (c := b.isOpen) rfl rfl (fun hpk => by simp [go_sem, hpk, ha.e 55 (i 2 rfl)]) (fun hpk => by simp [go_sem, hpk, ha.e 55 (i 2 rfl), ha.e 67 ((i 14 rfl).1 hpk)]), trivial⟩ ?_
   intro f6 s6 W6 hB6 g6 hg6
   have fB6 := hB6.f fB4
   have z6 := hB6.below.size
   have b6_0 := hB6.b b4_0
   refine hK11 _ _ ?_
   have k6_2 := kt hg6 2 k4_2
   have k6_68 := kt hg6 68 (hB6.is 15)
   refine wp_cond_split (t := (b.isOpen) && (((b.top.getD 0 0) != 0) || ((b.top.getD 1 0) != 0))) ((fr_eval rfl).trans k6_68) (fun hc12 => ?_) (fun hc12 => ?_)
   ·
    have hc12' := hc12; try simp only [ba] at hc12'
    refine wp_seq_k fun K13 hK13 => ?_
    refine region_dk 1 [(2, 0)] [[]] (rel [is (.int .i64 2)])
     ⟨is_k, trivial⟩
     ⟨fun f s W h i j k a ha => opv rfl rfl (by simp [go_sem]) rfl, trivial⟩ ?_
    intro f7 s7 W7 hB7 g7 hg7
    have fB7 := hB7.f fB6
    have z7 := hB7.below.size
    have b7_0 := hB7.b b6_0
    refine hK13 _ _ ?_
    have k7_2 := kt hg7 2 (hB7.is 0)
    refine wp_ret ?_
    refine then_ret ?_
    refine leave_one (N := 69) (v := .int .i64 2) (.inr rfl) Tryz.results16 rfl k7_2 ?_
    have t0 : refLens b = false := hc4
    have t1 : refNums b = false := hc8
    have t2 : refOpen b = true := hc12
    exact ⟨by simp [refCheck, t0, t1, t2], fB7⟩
   ·
    have hc12' := hc12; try simp only [ba] at hc12'
    refine wp_skip ?_
    refine hK10 _ _ ?_
    refine wp_seq_k fun K14 hK14 => ?_
    refine region_dk 1 [(2, 0)] [[]] (rel [is (.int .i64 0)])
     ⟨is_k, trivial⟩
     ⟨fun f s W h i j k a ha => opv rfl rfl (by simp [go_sem]) rfl, trivial⟩ ?_
    intro f8 s8 W8 hB8 g8 hg8
    have fB8 := hB8.f fB6
    have z8 := hB8.below.size
    have b8_0 := hB8.b b6_0
    refine hK14 _ _ ?_
    have k8_2 := kt hg8 2 (hB8.is 0)
    refine wp_ret ?_
    refine leave_one (N := 69) (v := .int .i64 0) (.inr rfl) Tryz.results16 rfl k8_2 ?_
    have t0 : refLens b = false := hc4
    have t1 : refNums b = false := hc8
    have t2 : refOpen b = false := hc12
    exact ⟨by simp [refCheck, t0, t1, t2], fB8⟩
theorem refCheck_blk {w : World} {v : Value} {b : Bl} (hb : Blk w v b) : Calls Tryz.prog 16 #[v] w fun e w' => e = .returned (.int .i64 (refCheck b)) ∧ Below w.heap.size w w' := by
  obtain ⟨a1, n1', c1, a2, n2', c2, a3, n3', c3, rfl, h1, h2, h3⟩ := hb
  obtain rfl := h1.1; obtain rfl := h2.1; obtain rfl := h3.1
  exact refCheck_any a1 a2 a3 c1 c2 c3 b w h1 h2 h3
def largeB (b : Bl) : Bool := (decide (10 < (b.panels.length : Int)) || decide (10 < (b.top.length : Int))) || decide (10 < (b.bottom.length : Int))
set_option maxRecDepth 100000 in
set_option maxHeartbeats 400000 in
theorem large_any (a1 a2 a3 : Option Addr) (c1 c2 c3 : Nat) (b : Bl) (w : World) (h1 : Ii w a1 b.panels.length c1 b.panels) (h2 : Ii w a2 b.top.length c2 b.top) (h3 : Ii w a3 b.bottom.length c3 b.bottom) :
  Calls Tryz.prog 11 #[.agg #[.int .i64 b.tab, .slice (a1) (b.panels.length) (c1), .int .i64 b.height, .slice (a2) (b.top.length) (c2), .slice (a3) (b.bottom.length) (c3), .int .i64 b.slot, .bool b.isOpen]] w (fun e w' => e = .returned (.bool (largeB b)) ∧ Below w.heap.size w w') := by
 have hm1 := h1.len_le
 have hm2 := h2.len_le
 have hm3 := h3.len_le
 refine calls_fr Tryz.func11 Tryz.ntmps11 rfl rfl fun g hg => ?_
 have k0 : g 0 = .agg #[.int .i64 b.tab, .slice (a1) (b.panels.length) (c1), .int .i64 b.height, .slice (a2) (b.top.length) (c2), .slice (a3) (b.bottom.length) (c3), .int .i64 b.slot, .bool b.isOpen] := hg 0
 clear hg
 have fB0 : Below w.heap.size w w := Below.refl _ _
 refine wp_seq_k fun K1 hK1 => ?_
 refine region_dk 2 [(1, 0), (2, 1)] [[], []] (rel [bx 0 #[.int .i64 b.tab, .slice (a1) (b.panels.length) (c1), .int .i64 b.height, .slice (a2) (b.top.length) (c2), .slice (a3) (b.bottom.length) (c3), .int .i64 b.slot, .bool b.isOpen] 24,
   is (.bool false)])
  ⟨bx_k, is_k, trivial⟩
  ⟨fun f s W h i j k a ha => opb rfl rfl (by simp [go_sem, ha.e 0 k0]),
  fun f s W h i j k a ha => opv rfl rfl (by simp [go_sem]) rfl, trivial⟩ ?_
 intro f1 s1 W1 hB1 g1 hg1
 have fB1 := hB1.f fB0
 have z1 := hB1.below.size
 obtain ⟨r1_0, br1_0⟩ := hB1.is 0
 have lr1_0 := hB1.lr 0 br1_0
 refine hK1 _ _ ?_
 have k1_1 := kt hg1 1 r1_0
 have k1_2 := kt hg1 2 (hB1.is 1)
 refine wp_seq_k fun K2 hK2 => ?_
 refine region_dk 17 [(3, 0), (4, 1), (5, 2), (6, 3), (7, 4), (8, 5), (9, 6), (10, 7), (11, 8), (12, 9), (13, 10), (14, 11), (15, 12), (16, 13), (17, 14), (18, 15), (2, 16)] [[], [0], [0, 1], [0, 1, 2], [0, 1, 2, 3], [0, 1, 2, 3, 4], [0, 1, 2, 3, 4, 5], [0, 1, 2, 3, 4, 5, 6], [0, 1, 2, 3, 4, 5, 6, 7], [0, 1, 2, 3, 4, 5, 6, 7, 8], [0, 1, 2, 3, 4, 5, 6, 7, 8, 9], [0, 1, 2, 3, 4, 5, 6, 7, 8, 9, 10], [0, 1, 2, 3, 4, 5, 6, 7, 8, 9, 10, 11], [0, 1, 2, 3, 4, 5, 6, 7, 8, 9, 10, 11, 12], [0, 1, 2, 3, 4, 5, 6, 7, 8, 9, 10, 11, 12, 13], [0, 1, 2, 3, 4, 5, 6, 7, 8, 9, 10, 11, 12, 13, 14], [0, 1, 2, 3, 4, 5, 6, 7, 8, 9, 10, 11, 12, 13, 14, 15]] (rel [is (.pointer (some ⟨(s1 0), 1, none⟩)),
   is (.slice (a1) (b.panels.length) (c1)),
   is (.int .i64 ((b.panels.length : Int))),
   is (.bool (decide (10 < (b.panels.length : Int)))),
   is (.bool (decide (10 < (b.panels.length : Int)))),
   gd (decide (10 < (b.panels.length : Int))) false (is (.pointer (some ⟨(s1 0), 3, none⟩))),
   gd (decide (10 < (b.panels.length : Int))) false (is (.slice (a2) (b.top.length) (c2))),
   gd (decide (10 < (b.panels.length : Int))) false (is (.int .i64 ((b.top.length : Int)))),
   gd (decide (10 < (b.panels.length : Int))) false (is (.bool (decide (10 < (b.top.length : Int))))),
   is (.bool ((decide (10 < (b.panels.length : Int))) || (decide (10 < (b.top.length : Int))))),
   is (.bool ((decide (10 < (b.panels.length : Int))) || (decide (10 < (b.top.length : Int))))),
   gd ((decide (10 < (b.panels.length : Int))) || (decide (10 < (b.top.length : Int)))) false (is (.pointer (some ⟨(s1 0), 4, none⟩))),
   gd ((decide (10 < (b.panels.length : Int))) || (decide (10 < (b.top.length : Int)))) false (is (.slice (a3) (b.bottom.length) (c3))),
   gd ((decide (10 < (b.panels.length : Int))) || (decide (10 < (b.top.length : Int)))) false (is (.int .i64 ((b.bottom.length : Int)))),
   gd ((decide (10 < (b.panels.length : Int))) || (decide (10 < (b.top.length : Int)))) false (is (.bool (decide (10 < (b.bottom.length : Int))))),
   is (.bool (((decide (10 < (b.panels.length : Int))) || (decide (10 < (b.top.length : Int)))) || (decide (10 < (b.bottom.length : Int))))),
   is (.bool (((decide (10 < (b.panels.length : Int))) || (decide (10 < (b.top.length : Int)))) || (decide (10 < (b.bottom.length : Int)))))])
  ⟨is_k, is_k, is_k, is_k, is_k, gd_k (is_k), gd_k (is_k), gd_k (is_k), gd_k (is_k), is_k, is_k, gd_k (is_k), gd_k (is_k), gd_k (is_k), gd_k (is_k), is_k, is_k, trivial⟩
  ⟨fun f s W h i j k a ha => opv rfl rfl (by simp [go_sem, ha.e 1 k1_1]) rfl,
  fun f s W h i j k a ha => opv rfl rfl (by simp [go_sem, ha.e 3 (i 0 rfl), cb br1_0 h 1]) rfl,
  fun f s W h i j k a ha => opv rfl rfl (by simp [go_sem, ha.e 4 (i 1 rfl)]) rfl,
  fun f s W h i j k a ha => opv rfl rfl (by simp [go_sem, ha.e 5 (i 2 rfl)]) rfl,
  fun f s W h i j k a ha => opv rfl rfl (by simp [go_sem, ha.e 6 (i 3 rfl)]) rfl,
  fun f s W h i j k a ha => gdo rfl rfl (ha.says (d := 7) rfl rfl (i 4 rfl)) fun hgd0 => gv (by simp [go_sem, ha.e 1 k1_1]) rfl,
  fun f s W h i j k a ha => gdo rfl rfl (ha.says (d := 7) rfl rfl (i 4 rfl)) fun hgd0 => gv (by simp [go_sem, ha.e 8 ((i 5 rfl).1 hgd0), cb br1_0 h 3]) rfl,
  fun f s W h i j k a ha => gdo rfl rfl (ha.says (d := 7) rfl rfl (i 4 rfl)) fun hgd0 => gv (by simp [go_sem, ha.e 9 ((i 6 rfl).1 hgd0)]) rfl,
  fun f s W h i j k a ha => gdo rfl rfl (ha.says (d := 7) rfl rfl (i 4 rfl)) fun hgd0 => gv (by simp [go_sem, ha.e 10 ((i 7 rfl).1 hgd0)]) rfl,
  fun f s W h i j k a ha => opk (c := decide (10 < (b.panels.length : Int))) rfl rfl (fun hpk => by first | (simp [go_sem, hpk, ha.e 7 (i 4 rfl), ha.e 11 ((i 8 rfl).1 hpk)]; done) | (have hpk' := hpk; simp at hpk'; simp [go_sem, hpk', hpk, ha.e 7 (i 4 rfl), ha.e 11 ((i 8 rfl).1 hpk)])) (fun hpk => by first | (simp [go_sem, hpk, ha.e 7 (i 4 rfl)]; done) | (have hpk' := hpk; simp at hpk'; simp [go_sem, hpk', hpk, ha.e 7 (i 4 rfl)])),
  fun f s W h i j k a ha => opv rfl rfl (by simp [go_sem, ha.e 12 (i 9 rfl)]) rfl,
  fun f s W h i j k a ha => gdo rfl rfl (ha.says (d := 13) rfl rfl (i 10 rfl)) fun hgd0 => gv (by simp [go_sem, ha.e 1 k1_1]) rfl,
  fun f s W h i j k a ha => gdo rfl rfl (ha.says (d := 13) rfl rfl (i 10 rfl)) fun hgd0 => gv (by simp [go_sem, ha.e 14 ((i 11 rfl).1 hgd0), cb br1_0 h 4]) rfl,
  fun f s W h i j k a ha => gdo rfl rfl (ha.says (d := 13) rfl rfl (i 10 rfl)) fun hgd0 => gv (by simp [go_sem, ha.e 15 ((i 12 rfl).1 hgd0)]) rfl,
  fun f s W h i j k a ha => gdo rfl rfl (ha.says (d := 13) rfl rfl (i 10 rfl)) fun hgd0 => gv (by simp [go_sem, ha.e 16 ((i 13 rfl).1 hgd0)]) rfl,
  fun f s W h i j k a ha => opk (c := (decide (10 < (b.panels.length : Int))) || (decide (10 < (b.top.length : Int)))) rfl rfl (fun hpk => by first | (simp [go_sem, hpk, ha.e 13 (i 10 rfl), ha.e 17 ((i 14 rfl).1 hpk)]; done) | (have hpk' := hpk; simp at hpk'; simp [go_sem, hpk', hpk, ha.e 13 (i 10 rfl), ha.e 17 ((i 14 rfl).1 hpk)])) (fun hpk => by first | (simp [go_sem, hpk, ha.e 13 (i 10 rfl)]; done) | (have hpk' := hpk; simp at hpk'; simp [go_sem, hpk', hpk, ha.e 13 (i 10 rfl)])),
  fun f s W h i j k a ha => opv rfl rfl (by simp [go_sem, ha.e 18 (i 15 rfl)]) rfl, trivial⟩ ?_
 intro f2 s2 W2 hB2 g2 hg2
 have fB2 := hB2.f fB1
 have z2 := hB2.below.size
 have b2_0 := hB2.b br1_0
 refine hK2 _ _ ?_
 have k2_2 := kt hg2 2 (hB2.is 16)
 refine wp_ret ?_
 refine leave_one (N := 19) (v := .bool (((decide (10 < (b.panels.length : Int))) || (decide (10 < (b.top.length : Int)))) || (decide (10 < (b.bottom.length : Int))))) (.inr rfl) Tryz.results11 rfl k2_2 ?_
 exact ⟨rfl, fB2⟩
set_option maxRecDepth 100000 in
set_option maxHeartbeats 400000 in
theorem own_any (a1 a2 a3 : Option Addr) (c1 c2 c3 : Nat) (b : Bl) (w : World) (h1 : Ii w a1 b.panels.length c1 b.panels) (h2 : Ii w a2 b.top.length c2 b.top) (h3 : Ii w a3 b.bottom.length c3 b.bottom) (n1 : b.panels.length ≤ 1000) (n2 : b.top.length ≤ 1000) (n3 : b.bottom.length ≤ 1000) :
  Calls Tryz.prog 13 #[.agg #[.int .i64 b.tab, .slice (a1) (b.panels.length) (c1), .int .i64 b.height, .slice (a2) (b.top.length) (c2), .slice (a3) (b.bottom.length) (c3), .int .i64 b.slot, .bool b.isOpen]] w (NwBlkP b w) := by
 refine calls_fr Tryz.func13 Tryz.ntmps13 rfl rfl fun g hg => ?_
 have k0 : g 0 = .agg #[.int .i64 b.tab, .slice (a1) (b.panels.length) (c1), .int .i64 b.height, .slice (a2) (b.top.length) (c2), .slice (a3) (b.bottom.length) (c3), .int .i64 b.slot, .bool b.isOpen] := hg 0
 clear hg
 have fB0 : Below w.heap.size w w := Below.refl _ _
 refine wp_seq_k fun K1 hK1 => ?_
 refine region_dk 2 [(1, 0), (2, 1)] [[], []] (rel [bx 0 #[.int .i64 b.tab, .slice (a1) (b.panels.length) (c1), .int .i64 b.height, .slice (a2) (b.top.length) (c2), .slice (a3) (b.bottom.length) (c3), .int .i64 b.slot, .bool b.isOpen] 24,
   bx 1 #[.int .i64 0, .slice (none) (0) (0), .int .i64 0, .slice (none) (0) (0), .slice (none) (0) (0), .int .i64 0, .bool false] 24])
  ⟨bx_k, bx_k, trivial⟩
  ⟨fun f s W c d i j a ha => opb rfl rfl (by simp [go_sem, ha.e 0 k0]),
  fun f s W c d i j a ha => opb rfl rfl (by simp [go_sem]), trivial⟩ ?_
 intro f1 s1 W1 hB1 g1 hg1
 have fB1 := hB1.f fB0
 have z1 := hB1.below.size
 obtain ⟨r1_0, br1_0⟩ := hB1.is 0
 have lr1_0 := hB1.lr 0 br1_0
 obtain ⟨r1_1, br1_1⟩ := hB1.is 1
 have lr1_1 := hB1.lr 1 br1_1
 have ne1_0_1 : s1 0 ≠ s1 1 := hB1.ne 0 1 (by decide) (by decide) (by decide) (fun _ _ _ h => lt_of_blk h.2) (fun _ _ _ h => lt_of_blk h.2)
 refine hK1 _ _ ?_
 have k1_1 := kt hg1 1 r1_0
 have k1_2 := kt hg1 2 r1_1
 refine wp_seq_k fun K2 hK2 => ?_
 refine region_dk 2 [(3, 0), (4, 1)] [[], [0], [0, 1]] (rel [is (.agg #[.int .i64 b.tab, .slice (a1) (b.panels.length) (c1), .int .i64 b.height, .slice (a2) (b.top.length) (c2), .slice (a3) (b.bottom.length) (c3), .int .i64 b.slot, .bool b.isOpen]),
   fun v s W => NwBlk (s 1) (b) v W])
  ⟨is_k, ⟨fun v k W W' hb h => h.below hb, fun v s s' W e h => by have h' : NwBlk (s 1) (b) v W := h; show NwBlk (s' 1) (b) v W; rw [← e 1 (by simp)]; exact h'⟩, trivial⟩
  ⟨fun f s W c d i j a ha => opv rfl rfl (by simp [go_sem, ha.e 1 k1_1, cb br1_0 c 0, cb br1_0 c 1, cb br1_0 c 2, cb br1_0 c 3, cb br1_0 c 4, cb br1_0 c 5, cb br1_0 c 6]) rfl,
  fun f s W c d i j a ha => by have l := below_trans fB1 c; exact opDo_call rfl rfl (by simp [go_sem, ha.e 3 (d 0 rfl)]) (copy_any a1 a2 a3 c1 c2 c3 b W (h1.below l (Nat.le_refl _)) (h2.below l (Nat.le_refl _)) (h3.below l (Nat.le_refl _)) n1 n2 n3) (fun e W' h => by obtain ⟨v, e1, h1, h2⟩ := h; exact ⟨v, e1, h2, (show NwBlk (upd s 1 W.heap.size 1) (b) v W' from by rw [upd_at]; exact h1)⟩), trivial⟩ ?_
 intro f2 s2 W2 hB2 g2 hg2
 have fB2 := hB2.f fB1
 have z2 := hB2.below.size
 have b2_0 := hB2.b br1_0
 have b2_1 := hB2.b br1_1
 obtain ⟨g1', c4', g2', c5', g3', c6', r2_1, ⟨q7', q9', q8'⟩, ⟨q10', q12', q11'⟩, ⟨q13', q15', q14'⟩⟩ := hB2.is 1
 have la2_1 := hB2.from' 1 (by decide)
 have k2_2 := kt hg2 2 k1_2
 have k2_4 := kt hg2 4 r2_1
 obtain ⟨W3, hW3⟩ : ∃ W', W' = W2.setRow (s1 1) #[.int .i64 b.tab, .slice (some ⟨g1', 0, none⟩) (b.panels.length) (c4'), .int .i64 b.height, .slice (some ⟨g2', 0, none⟩) (b.top.length) (c5'), .slice (some ⟨g3', 0, none⟩) (b.bottom.length) (c6'), .int .i64 b.slot, .bool b.isOpen] := ⟨_, rfl⟩
 refine tail_skip (o := _) rfl ⟨rfl, rfl⟩ (run_seg hW3 (fr_ev k2_2) (fr_ev k2_4) b2_1 rfl rfl rfl rfl) ?_
 obtain ⟨fB3, nb3, ot3, z3⟩ := seg_facts hW3 fB2 b2_1 (by omega)
 clear hW3
 have b3_0 := ot3 _ _ (by omega) b2_0
 have q16' := (q7'.other ot3 q8' (by omega) z3)
 have q17' := Nat.lt_of_lt_of_le q8' z3
 have q18' := (q10'.other ot3 q11' (by omega) z3)
 have q19' := Nat.lt_of_lt_of_le q11' z3
 have q20' := (q13'.other ot3 q14' (by omega) z3)
 have q21' := Nat.lt_of_lt_of_le q14' z3
 refine wpOps_end ?_
 refine hK2 _ _ ?_
 refine wp_ret ?_
 refine leave_gen (v := .agg #[.int .i64 b.tab, .slice (some ⟨g1', 0, none⟩) (b.panels.length) (c4'), .int .i64 b.height, .slice (some ⟨g2', 0, none⟩) (b.top.length) (c5'), .slice (some ⟨g3', 0, none⟩) (b.bottom.length) (c6'), .int .i64 b.slot, .bool b.isOpen]) (.inr rfl) (by simp [results, Tryz.results13, go_sem, frv 5 k2_2, cl nb3 0, cl nb3 1, cl nb3 2, cl nb3 3, cl nb3 4, cl nb3 5, cl nb3 6]) ?_
 exact ⟨_, rfl, ⟨_, _, _, _, _, _, rfl, ⟨q16', by omega, q17'⟩, ⟨q18', by omega, q19'⟩, ⟨q20', by omega, q21'⟩⟩, fB3⟩
end Go.Proofs.YthnediamopehfaaGreat
