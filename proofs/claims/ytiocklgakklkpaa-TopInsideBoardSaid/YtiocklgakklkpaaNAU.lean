/- Part of the proof: what the claim leans on. -/
import Derived.Test.YtiocklgakklkpaaNAQ
import Derived.Test.YtiocklgakklkpaaNAT
import Derived.Test.YtiocklgakklkpaaNAS
import Derived.Test.YtiocklgakklkpaaNAI
set_option linter.unusedSimpArgs false
set_option linter.unusedVariables false
namespace Go.Proofs.Ytiocklgakklkpaa
open Go.RowKit
/-- The store of the tops is valid, and its kinds are those of a board. -/
structure FoldIn (ps : Nat → Pa) (qs : Nat → Fu) : Prop where
  p : ∀ i, i < 3 → PaIn (ps i)
  q : ∀ i, i < 2 → FuIn (qs i)
  k0 : (ps 0).kind = 1
  k1 : (ps 1).kind = 2
  k2 : (ps 2).kind = 1
def o1 (p : Pa) : Int := p.weight * (1000 + p.m1)
def o2 (p : Pa) : Int := p.weight * (1000 + p.m2)
def s1S (a b c : Int) (f : Fu) : Int := sumS (fun i => [a, b, c].getD i 0) (fun i => [f.pitch, 1 * f.draw, f.pitch].getD i 0) 3
/-- What a board with one flute weighs, and one with two. -/
def w1S (a b c : Int) (f : Fu) : Int := s1S a b c f / (1000 * f.pitch)
def lo1 (ps : Nat → Pa) (qs : Nat → Fu) : Int := (((ps 0).t1 + (ps 2).t1) + (qs 0).h1)
def hi1 (ps : Nat → Pa) (qs : Nat → Fu) : Int := (((ps 0).t2 + (ps 2).t2) + (qs 0).h2)
def qOf (lo hi : Int) (n : Nat) (bs : Nat → Int) (i : Nat) : Int := byAt n bs i * (hi - lo) / 255
def cal1 (ps : Nat → Pa) (qs : Nat → Fu) (n : Nat) (bs : Nat → Int) : Int := ((((ps 0).t1 + qOf (ps 0).t1 (ps 0).t2 n bs 0) + ((qs 0).h1 + qOf (qs 0).h1 (qs 0).h2 n bs 1)) + ((ps 2).t1 + qOf (ps 2).t1 (ps 2).t2 n bs 2))
theorem prod_bd {a b A B : Int} (h1 : 0 ≤ a ∧ a ≤ A) (h2 : 0 ≤ b ∧ b ≤ B) : 0 ≤ a * b ∧ a * b ≤ A * B :=
  ⟨Int.mul_nonneg h1.1 h2.1, Int.mul_le_mul h1.2 h2.2 h2.1 (by omega)⟩
theorem o1_bd {p : Pa} (h : PaIn p) : 0 ≤ o1 p ∧ o1 p ≤ 1200000 := by
  have := h.weight; have := h.moist
  exact prod_bd (A := 1000) (B := 1200) (by omega) (by omega)
theorem o2_bd {p : Pa} (h : PaIn p) : 0 ≤ o2 p ∧ o2 p ≤ 1200000 := by
  have := h.weight; have := h.moist
  exact prod_bd (A := 1000) (B := 1200) (by omega) (by omega)
theorem div_bd {a b : Int} (ha : 0 ≤ a ∧ a ≤ 10000000000000000) (hb : 1 ≤ b) : 0 ≤ a / b ∧ a / b ≤ 10000000000000000 := by
  refine ⟨Int.ediv_nonneg ha.1 (by omega), ?_⟩
  have := Int.ediv_le_self b ha.1
  omega
theorem q_bd {t d : Int} (ht : 0 ≤ t ∧ t ≤ 255) (hd : 0 ≤ d ∧ d ≤ 20000) : (0 ≤ t * d ∧ t * d ≤ 100000000) ∧ 0 ≤ t * d / 255 ∧ t * d / 255 ≤ d := by
  have h1 := prod_bd ht hd
  have h2 : t * d ≤ 255 * d := Int.mul_le_mul_of_nonneg_right ht.2 hd.1
  omega
theorem qOf_bd {a : Option Addr} {n : Nat} {bs : Nat → Int} {W : World} (h : ByV W a n bs) {lo hi : Int} (h1 : lo ≤ hi) (h2 : hi - lo ≤ 20000) (i : Nat) : 0 ≤ qOf lo hi n bs i ∧ qOf lo hi n bs i ≤ hi - lo := (q_bd (h.at i) (by omega)).2
theorem qOf_0 (lo hi : Int) (i : Nat) : qOf lo hi 1 (fun _ => 0) i = 0 := by
  unfold qOf byAt; simp
theorem qOf_255 (lo hi : Int) (i : Nat) : qOf lo hi 1 (fun _ => 255) i = hi - lo := by
  unfold qOf byAt; simp only [if_neg (show ¬ (1 : Nat) = 0 by decide)]; omega
theorem getD3 {p : Int → Prop} {a b c : Int} (h0 : p a) (h1 : p b) (h2 : p c) : ∀ i, i < 3 → p ([a, b, c].getD i 0) := fun i hi => by
  match i, hi with
  | 0, _ => exact h0
  | 1, _ => exact h1
  | 2, _ => exact h2
theorem s1S_bd {a b c : Int} {f : Fu} (hf : FuIn f) (ha : 0 ≤ a ∧ a ≤ 1200000) (hb : 0 ≤ b ∧ b ≤ 1200000) (hc : 0 ≤ c ∧ c ≤ 1200000) : 0 ≤ s1S a b c f ∧ s1S a b c f ≤ 10000000000000000 := by
  have := hf.pitch; have := hf.draw
  have h := sumS_bd (o := fun i => [a, b, c].getD i 0) (p := fun i => [f.pitch, 1 * f.draw, f.pitch].getD i 0) (m := 3) (fun i hi => by
    have := prod_bd (A := 1200000) (B := 200000000) (getD3 (p := fun x => 0 ≤ x ∧ x ≤ 1200000) ha hb hc i hi) (getD3 (p := fun x => 0 ≤ x ∧ x ≤ 200000000) (a := f.pitch) (b := 1 * f.draw) (c := f.pitch) (by omega) (by omega) (by omega) i hi)
    omega) 3 (Nat.le_refl _)
  unfold s1S
  omega
theorem measure_s {ps : Nat → Pa} {qs : Nat → Fu} (hI : FoldIn ps qs) (g1 c1 g2 c2 x1 d1 x2 d2 : Nat) (w : World) (hP : PaR w g1 0 3 ps) (hQ : FuR w g2 0 2 qs) (hX : Ii w (some ⟨x1, 0, none⟩) 3 d1 [0, 1, 2]) (hF : Ii w (some ⟨x2, 0, none⟩) 1 d2 [0]) :
    Calls Try.prog 8 #[.agg #[.slice (some ⟨g1, 0, none⟩) 3 c1, .slice (some ⟨g2, 0, none⟩) 2 c2], .agg #[.slice (some ⟨x1, 0, none⟩) 3 d1, .slice (some ⟨x2, 0, none⟩) 1 d2]] w (fun e w' => e = .returned (.tuple #[.agg #[.int .i64 (w1S (o1 (ps 0)) (o1 (ps 1)) (o1 (ps 2)) (qs 0)), .int .i64 (w1S (o2 (ps 0)) (o2 (ps 1)) (o2 (ps 2)) (qs 0))], .agg #[.int .i64 (lo1 ps qs), .int .i64 (hi1 ps qs)], .int .i64 0]) ∧ Below w.heap.size w w') := by
  have hf := hI.q 0 (by decide); have hg := hI.q 1 (by decide)
  have := hf.pitch; have := hf.draw; have := hg.pitch; have := hg.draw
  have e1 := prod_bd (a := (qs 0).pitch) (b := (qs 1).pitch) (A := 10000) (B := 10000) (by omega) (by omega)
  have e2 := prod_bd (a := (qs 1).pitch) (b := (qs 0).draw) (A := 10000) (B := 20000) (by omega) (by omega)
  have e3 := prod_bd (a := (qs 0).pitch) (b := (qs 1).draw) (A := 10000) (B := 20000) (by omega) (by omega)
  have e4 : 1000 * 1000 ≤ (qs 0).pitch * (qs 1).pitch := Int.mul_le_mul (by omega) (by omega) (by decide) (by omega)
  have a0 := o1_bd (hI.p 0 (by decide)); have a1 := o1_bd (hI.p 1 (by decide)); have a2 := o1_bd (hI.p 2 (by decide))
  have b0 := o2_bd (hI.p 0 (by decide)); have b1 := o2_bd (hI.p 1 (by decide)); have b2 := o2_bd (hI.p 2 (by decide))
  have hsa := s1S_bd hf  a0 a1 a2
  have hsb := s1S_bd hf  b0 b1 b2
  exact Measure_1 (ps) (qs) (g1) (0) (3) (c1) (g2) (0) (2) (c2) (x1) (0) (d1) (x2) (0) (d2) (0) (1) (2) (0) (ps 0) (ps 1) (ps 2) (qs 0) ((qs 0).pitch) (1) (s1S (o1 (ps 0)) (o1 (ps 1)) (o1 (ps 2)) (qs 0)) (s1S (o2 (ps 0)) (o2 (ps 1)) (o2 (ps 2)) (qs 0)) (w1S (o1 (ps 0)) (o1 (ps 1)) (o1 (ps 2)) (qs 0)) (w1S (o2 (ps 0)) (o2 (ps 1)) (o2 (ps 2)) (qs 0)) (lo1 ps qs) (hi1 ps qs) (fun i => [o1 (ps 0), o1 (ps 1), o1 (ps 2)].getD i 0) (fun i => [o2 (ps 0), o2 (ps 1), o2 (ps 2)].getD i 0) (w) (hP) (hQ) (hI.p) (hI.q) (by decide) (by decide) (by decide) (by decide) (hX) (hF) (by decide) (rfl) (by decide) (rfl) (by decide) (rfl) (by decide) (rfl) (hI.k0) (hI.k1) (hI.k2) (rfl) (by omega) (by omega) (Int.ediv_self (by omega)) (by omega) (by omega) (by omega) (by omega) (rfl) (hsa) (rfl) (div_bd hsa (by omega)) (getD3 (p := fun x => 0 ≤ x ∧ x ≤ 1200000) a0 a1 a2) (rfl) (rfl) (rfl) (rfl) (rfl) (hsb) (rfl) (div_bd hsb (by omega)) (getD3 (p := fun x => 0 ≤ x ∧ x ≤ 1200000) b0 b1 b2) (rfl) (rfl) (rfl) (rfl)
theorem caliper_s {ps : Nat → Pa} {qs : Nat → Fu} (hI : FoldIn ps qs) (g1 c1 g2 c2 x1 d1 x2 d2 : Nat) (w : World) (hP : PaR w g1 0 3 ps) (hQ : FuR w g2 0 2 qs) (hX : Ii w (some ⟨x1, 0, none⟩) 3 d1 [0, 1, 2]) (hF : Ii w (some ⟨x2, 0, none⟩) 1 d2 [0]) (ta : Option Addr) (n tc : Nat) (bs : Nat → Int) (hT : ByV w ta n bs) :
    Calls Try.prog 14 #[.agg #[.slice (some ⟨g1, 0, none⟩) 3 c1, .slice (some ⟨g2, 0, none⟩) 2 c2], .agg #[.slice (some ⟨x1, 0, none⟩) 3 d1, .slice (some ⟨x2, 0, none⟩) 1 d2], .slice ta n tc] w (fun e w' => e = .returned (.int .i64 (cal1 ps qs n bs)) ∧ Below w.heap.size w w') := by
  have t0 := (hI.p 0 (by decide)).thick; have t2 := (hI.p 2 (by decide)).thick; have u0 := (hI.q 0 (by decide)).high; have u1 := (hI.q 1 (by decide)).high
  exact pubCaliper_1 (ps) (qs) (g1) (0) (3) (c1) (g2) (0) (2) (c2) (x1) (0) (d1) (x2) (0) (d2) (0) (1) (2) (0) (ps 0) (ps 1) (ps 2) (qs 0) (ta) (n) (tc) (bs) (fun i => byAt n bs i) (fun i => [qOf (ps 0).t1 (ps 0).t2 n bs 0, qOf (qs 0).h1 (qs 0).h2 n bs 1, qOf (ps 2).t1 (ps 2).t2 n bs 2].getD i 0) (w) (hP) (hQ) (hI.p) (hI.q) (by decide) (by decide) (by decide) (by decide) (hX) (hF) (by decide) (rfl) (by decide) (rfl) (by decide) (rfl) (by decide) (rfl) (hI.k0) (hI.k1) (hI.k2) (hT) (rfl) ((q_bd (hT.at 0) (by omega)).1) (rfl) ((by have := (q_bd (t := byAt n bs 0) (d := (ps 0).t2 - (ps 0).t1) (hT.at 0) (by omega)).2; show 0 ≤ byAt n bs 0 * ((ps 0).t2 - (ps 0).t1) / 255 ∧ byAt n bs 0 * ((ps 0).t2 - (ps 0).t1) / 255 ≤ 20000; omega)) (rfl) ((q_bd (hT.at 1) (by omega)).1) (rfl) ((by have := (q_bd (t := byAt n bs 1) (d := (qs 0).h2 - (qs 0).h1) (hT.at 1) (by omega)).2; show 0 ≤ byAt n bs 1 * ((qs 0).h2 - (qs 0).h1) / 255 ∧ byAt n bs 1 * ((qs 0).h2 - (qs 0).h1) / 255 ≤ 20000; omega)) (rfl) ((q_bd (hT.at 2) (by omega)).1) (rfl) ((by have := (q_bd (t := byAt n bs 2) (d := (ps 2).t2 - (ps 2).t1) (hT.at 2) (by omega)).2; show 0 ≤ byAt n bs 2 * ((ps 2).t2 - (ps 2).t1) / 255 ∧ byAt n bs 2 * ((ps 2).t2 - (ps 2).t1) / 255 ≤ 20000; omega))
theorem cal1_in {ps : Nat → Pa} {qs : Nat → Fu} (hI : FoldIn ps qs) {a : Option Addr} {n : Nat} {bs : Nat → Int} {W : World} (h : ByV W a n bs) : lo1 ps qs ≤ cal1 ps qs n bs ∧ cal1 ps qs n bs ≤ hi1 ps qs := by
  have t0 := (hI.p 0 (by decide)).thick; have t2 := (hI.p 2 (by decide)).thick; have u0 := (hI.q 0 (by decide)).high; have u1 := (hI.q 1 (by decide)).high
  have d0 := qOf_bd h (lo := (ps 0).t1) (hi := (ps 0).t2) (by omega) (by omega) 0
  have d1 := qOf_bd h (lo := (qs 0).h1) (hi := (qs 0).h2) (by omega) (by omega) 1
  have d2 := qOf_bd h (lo := (ps 2).t1) (hi := (ps 2).t2) (by omega) (by omega) 2
  unfold lo1 hi1 cal1
  omega
theorem cal1_0 (ps : Nat → Pa) (qs : Nat → Fu) : cal1 ps qs 1 (fun _ => 0) = lo1 ps qs := by
  unfold cal1 lo1; simp only [qOf_0]; omega
theorem cal1_255 (ps : Nat → Pa) (qs : Nat → Fu) : cal1 ps qs 1 (fun _ => 255) = hi1 ps qs := by
  unfold cal1 hi1; simp only [qOf_255]; omega
theorem lo1_in {ps : Nat → Pa} {qs : Nat → Fu} (hI : FoldIn ps qs) : 1 ≤ lo1 ps qs ∧ lo1 ps qs ≤ hi1 ps qs := by
  have t0 := (hI.p 0 (by decide)).thick; have t2 := (hI.p 2 (by decide)).thick; have u0 := (hI.q 0 (by decide)).high; have u1 := (hI.q 1 (by decide)).high
  unfold lo1 hi1; omega
end Go.Proofs.Ytiocklgakklkpaa
namespace Go.Proofs.Ytiocklgakklkpaa
open Go.RowKit
/-- A box whose lists are one's own. -/
def BoxO (B : Nat) (tb lg wd hh fp fq sl : Int) (v : Value) (W : World) : Prop := ∃ g1 c1 g2 c2 g3 c3, v = .agg #[.int .i64 tb, .slice (some ⟨g1, 0, none⟩) 4 c1, .int .i64 hh, .slice (some ⟨g2, 0, none⟩) 2 c2, .slice (some ⟨g3, 0, none⟩) 2 c3, .int .i64 sl, .bool false] ∧ OwnI B [lg, wd, lg, wd] g1 c1 W ∧ OwnI B [fp, fp] g2 c2 W ∧ OwnI B [fp, fq] g3 c3 W
theorem BoxO.below {B : Nat} {tb lg wd hh fp fq sl : Int} {v : Value} {W W' : World} (h : BoxO B tb lg wd hh fp fq sl v W) (hb : Below W.heap.size W W') : BoxO B tb lg wd hh fp fq sl v W' := by
  obtain ⟨g1, c1, g2, c2, g3, c3, e, h1, h2, h3⟩ := h
  exact ⟨g1, c1, g2, c2, g3, c3, e, h1.below hb, h2.below hb, h3.below hb⟩
def BoxOP (tb lg wd hh fp fq sl : Int) (w : World) (e : Ending) (w' : World) : Prop := ∃ v, e = .returned v ∧ BoxO w.heap.size tb lg wd hh fp fq sl v w' ∧ Below w.heap.size w w'
set_option maxRecDepth 100000 in
set_option maxHeartbeats 8000000 in
theorem pubBox_any (fv : Nat → Int) (mo r3 tb r4 sl hf lg wd fp fq hh : Int) (w : World) (gfv : ∀ k, 0 ≤ fv k ∧ fv k ≤ 255) (gmo : 0 ≤ mo ∧ mo ≤ 1000) (hr3 : fv 22 % 3 = r3) (htb : fv 20 % 50 = tb) (hr4 : fv 23 % 4 = r4) (hsl : fv 24 % 21 = sl) (hhf : (50 + fv 19) / 2 = hf) (hlg : (60 + fv 18) + mo = lg) (hwd : (50 + fv 19) + mo = wd) (hfp : hf + r3 = fp) (hfq : fp + r4 = fq) (hhh : (40 + fv 21) + mo = hh) :
  Calls Try.prog 7 #[.agg #[.int .u8 ((fv 0)), .int .u8 ((fv 1)), .int .u8 ((fv 2)), .int .u8 ((fv 3)), .int .u8 ((fv 4)), .int .u8 ((fv 5)), .int .u8 ((fv 6)), .int .u8 ((fv 7)), .int .u8 ((fv 8)), .int .u8 ((fv 9)), .int .u8 ((fv 10)), .int .u8 ((fv 11)), .int .u8 ((fv 12)), .int .u8 ((fv 13)), .int .u8 ((fv 14)), .int .u8 ((fv 15)), .int .u8 ((fv 16)), .int .u8 ((fv 17)), .int .u8 ((fv 18)), .int .u8 ((fv 19)), .int .u8 ((fv 20)), .int .u8 ((fv 21)), .int .u8 ((fv 22)), .int .u8 ((fv 23)), .int .u8 ((fv 24))], .int .i64 mo] w (BoxOP tb lg wd hh fp fq sl w) := by
 have g18_ := gfv 18
 have g19_ := gfv 19
 have g20_ := gfv 20
 have g21_ := gfv 21
 have g22_ := gfv 22
 have g23_ := gfv 23
 have g24_ := gfv 24
 have gr3 : 0 ≤ r3 ∧ r3 ≤ 2 := by omega
 have gr4 : 0 ≤ r4 ∧ r4 ≤ 3 := by omega
 have gtb : 0 ≤ tb ∧ tb ≤ 49 := by omega
 have gsl : 0 ≤ sl ∧ sl ≤ 20 := by omega
 have ghf : 0 ≤ hf ∧ hf ≤ 160 := by omega
 refine calls_fr Try.func7 Try.ntmps7 rfl rfl fun g hg => ?_
 have k0 : g 0 = .agg #[.int .u8 ((fv 0)), .int .u8 ((fv 1)), .int .u8 ((fv 2)), .int .u8 ((fv 3)), .int .u8 ((fv 4)), .int .u8 ((fv 5)), .int .u8 ((fv 6)), .int .u8 ((fv 7)), .int .u8 ((fv 8)), .int .u8 ((fv 9)), .int .u8 ((fv 10)), .int .u8 ((fv 11)), .int .u8 ((fv 12)), .int .u8 ((fv 13)), .int .u8 ((fv 14)), .int .u8 ((fv 15)), .int .u8 ((fv 16)), .int .u8 ((fv 17)), .int .u8 ((fv 18)), .int .u8 ((fv 19)), .int .u8 ((fv 20)), .int .u8 ((fv 21)), .int .u8 ((fv 22)), .int .u8 ((fv 23)), .int .u8 ((fv 24))] := hg 0
 have k1 : g 1 = .int .i64 mo := hg 1
 clear hg
 have fB0 : Below w.heap.size w w := Below.refl _ _
 refine wp_seq_k fun K1 hK1 => ?_
 refine region_dk 2 [(2, 0), (4, 1)] [[], []] (rel [bx 0 #[.int .u8 ((fv 0)), .int .u8 ((fv 1)), .int .u8 ((fv 2)), .int .u8 ((fv 3)), .int .u8 ((fv 4)), .int .u8 ((fv 5)), .int .u8 ((fv 6)), .int .u8 ((fv 7)), .int .u8 ((fv 8)), .int .u8 ((fv 9)), .int .u8 ((fv 10)), .int .u8 ((fv 11)), .int .u8 ((fv 12)), .int .u8 ((fv 13)), .int .u8 ((fv 14)), .int .u8 ((fv 15)), .int .u8 ((fv 16)), .int .u8 ((fv 17)), .int .u8 ((fv 18)), .int .u8 ((fv 19)), .int .u8 ((fv 20)), .int .u8 ((fv 21)), .int .u8 ((fv 22)), .int .u8 ((fv 23)), .int .u8 ((fv 24))] 28,
   bx 1 #[.int .i64 0, .slice (none) (0) (0), .int .i64 0, .slice (none) (0) (0), .slice (none) (0) (0), .int .i64 0, .bool false] 37])
  ⟨bx_k, bx_k, trivial⟩
  ⟨fun f s W c d h i j a => opb rfl rfl (by simp [go_sem, a.e 0 k0]),
  fun f s W c d h i j a => opb rfl rfl (by simp [go_sem]), trivial⟩ ?_
 intro f1 s1 W1 hB1 g1 hg1
 have fB1 := hB1.f fB0
 have z1 := hB1.below.size
 obtain ⟨r1_0, br1_0⟩ := hB1.is 0
 have lr1_0 := hB1.lr 0 br1_0
 obtain ⟨r1_1, br1_1⟩ := hB1.is 1
 have lr1_1 := hB1.lr 1 br1_1
 have ne1_0_1 := hB1.nb 0 1
 refine hK1 _ _ ?_
 have k1_1 := kt hg1 1 k1
 have k1_2 := kt hg1 2 r1_0
 have k1_4 := kt hg1 4 r1_1
 refine wp_seq_k fun K2 hK2 => ?_
 refine region_dk 3 [(9, 0), (10, 1), (5, 2)] [[], [0], [], [0, 1, 2]] (rel [is (.pointer (some ⟨(s1 0), 18, none⟩)),
   is (.agg #[.int .u8 ((fv 18)), .int .u8 ((fv 19)), .int .u8 ((fv 20)), .int .u8 ((fv 21)), .int .u8 ((fv 22)), .int .u8 ((fv 23)), .int .u8 ((fv 24))]),
   bx 2 #[.int .u8 0, .int .u8 0, .int .u8 0, .int .u8 0, .int .u8 0, .int .u8 0, .int .u8 0] 26])
  ⟨is_k, is_k, bx_k, trivial⟩
  ⟨fun f s W c d h i j a => opv rfl rfl (by simp [go_sem, a.e 2 k1_2]) rfl,
  fun f s W c d h i j a => opv rfl rfl (by simp [go_sem, a.e 9 (d 0 rfl), cb br1_0 c 18, cb br1_0 c 19, cb br1_0 c 20, cb br1_0 c 21, cb br1_0 c 22, cb br1_0 c 23, cb br1_0 c 24]) rfl,
  fun f s W c d h i j a => opb rfl rfl (by simp [go_sem]), trivial⟩ ?_
 intro f2 s2 W2 hB2 g2 hg2
 have fB2 := hB2.f fB1
 have z2 := hB2.below.size
 have b2_0 := hB2.b br1_0
 have b2_1 := hB2.b br1_1
 obtain ⟨r2_2, br2_2⟩ := hB2.is 2
 have lr2_2 := hB2.lr 2 br2_2
 have k2_1 := kt hg2 1 k1_1
 have k2_4 := kt hg2 4 k1_4
 have k2_10 := kt hg2 10 (hB2.is 1)
 have k2_5 := kt hg2 5 r2_2
 obtain ⟨W3, hW3⟩ : ∃ W', W' = W2.setRow (s2 2) #[.int .u8 ((fv 18)), .int .u8 ((fv 19)), .int .u8 ((fv 20)), .int .u8 ((fv 21)), .int .u8 ((fv 22)), .int .u8 ((fv 23)), .int .u8 ((fv 24))] := ⟨_, rfl⟩
 refine tail_skip (o := _) rfl ⟨rfl, rfl⟩ (run_seg hW3 (fr_ev k2_5) (fr_ev k2_10) br2_2 rfl rfl rfl rfl) ?_
 obtain ⟨fB3, nb3, ot3, z3⟩ := seg_facts hW3 fB2 br2_2 (by omega)
 clear hW3
 have b3_0 := ot3 _ _ (by omega) b2_0
 have b3_1 := ot3 _ _ (by omega) b2_1
 refine wpOps_end ?_
 refine hK2 _ _ ?_
 refine wp_seq_k fun K3 hK3 => ?_
 refine region_dk 25 [(11, 0), (12, 1), (13, 2), (14, 3), (15, 4), (16, 5), (17, 6), (18, 7), (19, 8), (20, 9), (21, 10), (22, 11), (23, 12), (24, 13), (25, 14), (26, 15), (27, 16), (28, 17), (29, 18), (30, 19), (31, 20), (32, 21), (6, 22), (7, 23), (8, 24)] [[], [0], [0, 1], [0, 1, 2], [], [0, 1, 2, 3, 4], [], [6], [6, 7], [6, 7, 8], [], [6, 7, 8, 9, 10], [], [12], [12, 13], [12, 13, 14], [12, 13, 14, 15], [], [17], [17, 18], [17, 18, 19], [12, 13, 14, 15, 16, 17, 18, 19, 20], [0, 1, 2, 3, 4, 5], [0, 1, 2, 3, 4, 5, 6, 7, 8, 9, 10, 11, 22], [0, 1, 2, 3, 4, 5, 6, 7, 8, 9, 10, 11, 12, 13, 14, 15, 16, 17, 18, 19, 20, 21, 22, 23]] (rel [is (.pointer (some ⟨(s2 2), 0, none⟩)),
   is (.int .u8 ((fv 18))),
   is (.int .i64 ((fv 18))),
   is (.int .i64 (60 + (fv 18))),
   is (.int .i64 mo),
   is (.int .i64 ((60 + (fv 18)) + mo)),
   is (.pointer (some ⟨(s2 2), 1, none⟩)),
   is (.int .u8 ((fv 19))),
   is (.int .i64 ((fv 19))),
   is (.int .i64 (50 + (fv 19))),
   is (.int .i64 mo),
   is (.int .i64 ((50 + (fv 19)) + mo)),
   is (.pointer (some ⟨(s2 2), 1, none⟩)),
   is (.int .u8 ((fv 19))),
   is (.int .i64 ((fv 19))),
   is (.int .i64 (50 + (fv 19))),
   is (.int .i64 hf),
   is (.pointer (some ⟨(s2 2), 4, none⟩)),
   is (.int .u8 ((fv 22))),
   is (.int .i64 ((fv 22))),
   is (.int .i64 r3),
   is (.int .i64 (hf + r3)),
   is (.int .i64 ((60 + (fv 18)) + mo)),
   is (.int .i64 ((50 + (fv 19)) + mo)),
   is (.int .i64 (hf + r3))])
  ⟨is_k, is_k, is_k, is_k, is_k, is_k, is_k, is_k, is_k, is_k, is_k, is_k, is_k, is_k, is_k, is_k, is_k, is_k, is_k, is_k, is_k, is_k, is_k, is_k, is_k, trivial⟩
  ⟨fun f s W c d h i j a => opv rfl rfl (by simp [go_sem, a.e 5 k2_5]) rfl,
  fun f s W c d h i j a => opv rfl rfl (by simp [go_sem, a.e 11 (d 0 rfl), cb nb3 c 0]) rfl,
  fun f s W c d h i j a => by have gf_ := gfv 18; have cv_ := IntWalk.i64_in (fv 18) (by omega); exact opv rfl rfl (by simp [go_sem, a.e 12 (d 1 rfl), cv_]) rfl,
  fun f s W c d h i j a => opv rfl rfl (by simp [go_sem, a.e 13 (d 2 rfl), IntWalk.i64_in (60 + (fv 18)) (by omega)]) rfl,
  fun f s W c d h i j a => opv rfl rfl (by simp [go_sem, a.e 1 k2_1]) rfl,
  fun f s W c d h i j a => opv rfl rfl (by simp [go_sem, a.e 14 (d 3 rfl), a.e 15 (d 4 rfl), IntWalk.i64_in ((60 + (fv 18)) + mo) (by omega)]) rfl,
  fun f s W c d h i j a => opv rfl rfl (by simp [go_sem, a.e 5 k2_5]) rfl,
  fun f s W c d h i j a => opv rfl rfl (by simp [go_sem, a.e 17 (d 6 rfl), cb nb3 c 1]) rfl,
  fun f s W c d h i j a => by have gf_ := gfv 19; have cv_ := IntWalk.i64_in (fv 19) (by omega); exact opv rfl rfl (by simp [go_sem, a.e 18 (d 7 rfl), cv_]) rfl,
  fun f s W c d h i j a => opv rfl rfl (by simp [go_sem, a.e 19 (d 8 rfl), IntWalk.i64_in (50 + (fv 19)) (by omega)]) rfl,
  fun f s W c d h i j a => opv rfl rfl (by simp [go_sem, a.e 1 k2_1]) rfl,
  fun f s W c d h i j a => opv rfl rfl (by simp [go_sem, a.e 20 (d 9 rfl), a.e 21 (d 10 rfl), IntWalk.i64_in ((50 + (fv 19)) + mo) (by omega)]) rfl,
  fun f s W c d h i j a => opv rfl rfl (by simp [go_sem, a.e 5 k2_5]) rfl,
  fun f s W c d h i j a => opv rfl rfl (by simp [go_sem, a.e 23 (d 12 rfl), cb nb3 c 1]) rfl,
  fun f s W c d h i j a => by have gf_ := gfv 19; have cv_ := IntWalk.i64_in (fv 19) (by omega); exact opv rfl rfl (by simp [go_sem, a.e 24 (d 13 rfl), cv_]) rfl,
  fun f s W c d h i j a => opv rfl rfl (by simp [go_sem, a.e 25 (d 14 rfl), IntWalk.i64_in (50 + (fv 19)) (by omega)]) rfl,
  fun f s W c d h i j a => by have qu_ : (50 + (fv 19)).tdiv 2 = hf := (Int.tdiv_eq_ediv_of_nonneg (by omega)).trans hhf; have qw_ := IntWalk.i64_in (hf) (by omega); exact opv rfl rfl (by simp [go_sem, a.e 26 (d 15 rfl), qu_, qw_]) rfl,
  fun f s W c d h i j a => opv rfl rfl (by simp [go_sem, a.e 5 k2_5]) rfl,
  fun f s W c d h i j a => opv rfl rfl (by simp [go_sem, a.e 28 (d 17 rfl), cb nb3 c 4]) rfl,
  fun f s W c d h i j a => by have gf_ := gfv 22; have cv_ := IntWalk.i64_in (fv 22) (by omega); exact opv rfl rfl (by simp [go_sem, a.e 29 (d 18 rfl), cv_]) rfl,
  fun f s W c d h i j a => by have gf_ := gfv 22; have qu_ : ((fv 22)).tmod 3 = r3 := (Int.tmod_eq_emod_of_nonneg (by omega)).trans hr3; have qw_ := IntWalk.i64_in (r3) (by omega); exact opv rfl rfl (by simp [go_sem, a.e 30 (d 19 rfl), qu_, qw_]) rfl,
  fun f s W c d h i j a => opv rfl rfl (by simp [go_sem, a.e 27 (d 16 rfl), a.e 31 (d 20 rfl), IntWalk.i64_in (hf + r3) (by omega)]) rfl,
  fun f s W c d h i j a => opv rfl rfl (by simp [go_sem, a.e 16 (d 5 rfl)]) rfl,
  fun f s W c d h i j a => opv rfl rfl (by simp [go_sem, a.e 22 (d 11 rfl)]) rfl,
  fun f s W c d h i j a => opv rfl rfl (by simp [go_sem, a.e 32 (d 21 rfl)]) rfl, trivial⟩ ?_
 intro f4 s4 W4 hB4 g4 hg4
 have fB4 := hB4.f fB3
 have z4 := hB4.below.size
 have b4_0 := hB4.b b3_0
 have b4_1 := hB4.b b3_1
 have b4_2 := hB4.b nb3
 refine hK3 _ _ ?_
 have k4_1 := kt hg4 1 k2_1
 have k4_4 := kt hg4 4 k2_4
 have k4_5 := kt hg4 5 k2_5
 have k4_6 := kt hg4 6 (hB4.is 22)
 have k4_7 := kt hg4 7 (hB4.is 23)
 have k4_8 := kt hg4 8 (hB4.is 24)
 have nk6_ : g4 6 = .int .i64 lg := k4_6.trans (by rw [hlg])
 have nk7_ : g4 7 = .int .i64 wd := k4_7.trans (by rw [hwd])
 have nk8_ : g4 8 = .int .i64 fp := k4_8.trans (by rw [hfp])
 refine wp_seq_k fun K4 hK4 => ?_
 refine region_dk 31 [(33, 0), (34, 1), (35, 2), (36, 3), (37, 4), (38, 5), (39, 6), (40, 7), (41, 8), (42, 9), (43, 10), (44, 11), (45, 12), (46, 13), (47, 14), (48, 15), (49, 16), (50, 17), (51, 18), (52, 19), (53, 20), (54, 21), (55, 22), (56, 23), (57, 24), (58, 25), (59, 26), (60, 27), (61, 28), (62, 29), (63, 30)] [[], [0], [0, 1], [0, 1, 2], [], [], [], [], [4, 5, 6, 7], [], [9], [9, 10], [9, 10, 11], [], [9, 10, 11, 12, 13], [], [], [15, 16], [], [], [], [20], [20, 21], [20, 21, 22], [19, 20, 21, 22, 23], [18, 19, 20, 21, 22, 23, 24], [], [26], [26, 27], [26, 27, 28], [0, 1, 2, 3, 4, 5, 6, 7, 8, 9, 10, 11, 12, 13, 14, 15, 16, 17, 18, 19, 20, 21, 22, 23, 24, 25, 26, 27, 28, 29], [0, 1, 2, 3, 4, 5, 6, 7, 8, 9, 10, 11, 12, 13, 14, 15, 16, 17, 18, 19, 20, 21, 22, 23, 24, 25, 26, 27, 28, 29, 30]] (rel [is (.pointer (some ⟨(s2 2), 2, none⟩)),
   is (.int .u8 ((fv 20))),
   is (.int .i64 ((fv 20))),
   is (.int .i64 tb),
   is (.int .i64 lg),
   is (.int .i64 wd),
   is (.int .i64 lg),
   is (.int .i64 wd),
   row 8 4 #[.int .i64 lg, .int .i64 wd, .int .i64 lg, .int .i64 wd] 3,
   is (.pointer (some ⟨(s2 2), 3, none⟩)),
   is (.int .u8 ((fv 21))),
   is (.int .i64 ((fv 21))),
   is (.int .i64 (40 + (fv 21))),
   is (.int .i64 mo),
   is (.int .i64 ((40 + (fv 21)) + mo)),
   is (.int .i64 fp),
   is (.int .i64 fp),
   row 17 2 #[.int .i64 fp, .int .i64 fp] 3,
   is (.int .i64 fp),
   is (.int .i64 fp),
   is (.pointer (some ⟨(s2 2), 5, none⟩)),
   is (.int .u8 ((fv 23))),
   is (.int .i64 ((fv 23))),
   is (.int .i64 r4),
   is (.int .i64 (fp + r4)),
   row 25 2 #[.int .i64 fp, .int .i64 (fp + r4)] 3,
   is (.pointer (some ⟨(s2 2), 6, none⟩)),
   is (.int .u8 ((fv 24))),
   is (.int .i64 ((fv 24))),
   is (.int .i64 sl),
   isS fun s => .agg #[.int .i64 tb, .slice (some ⟨(s 8), 0, none⟩) (4) (4), .int .i64 ((40 + (fv 21)) + mo), .slice (some ⟨(s 17), 0, none⟩) (2) (2), .slice (some ⟨(s 25), 0, none⟩) (2) (2), .int .i64 sl, .bool false]])
  ⟨is_k, is_k, is_k, is_k, is_k, is_k, is_k, is_k, row_k, is_k, is_k, is_k, is_k, is_k, is_k, is_k, is_k, row_k, is_k, is_k, is_k, is_k, is_k, is_k, is_k, row_k, is_k, is_k, is_k, is_k, isS_k fun s s' e => by rw [e 8 (by simp), e 17 (by simp), e 25 (by simp)], trivial⟩
  ⟨fun f s W c d h i j a => opv rfl rfl (by simp [go_sem, a.e 5 k4_5]) rfl,
  fun f s W c d h i j a => opv rfl rfl (by simp [go_sem, a.e 33 (d 0 rfl), cb b4_2 c 2]) rfl,
  fun f s W c d h i j a => by have gf_ := gfv 20; have cv_ := IntWalk.i64_in (fv 20) (by omega); exact opv rfl rfl (by simp [go_sem, a.e 34 (d 1 rfl), cv_]) rfl,
  fun f s W c d h i j a => by have gf_ := gfv 20; have qu_ : ((fv 20)).tmod 50 = tb := (Int.tmod_eq_emod_of_nonneg (by omega)).trans htb; have qw_ := IntWalk.i64_in (tb) (by omega); exact opv rfl rfl (by simp [go_sem, a.e 35 (d 2 rfl), qu_, qw_]) rfl,
  fun f s W c d h i j a => opv rfl rfl (by simp [go_sem, a.e 6 nk6_]) rfl,
  fun f s W c d h i j a => opv rfl rfl (by simp [go_sem, a.e 7 nk7_]) rfl,
  fun f s W c d h i j a => opv rfl rfl (by simp [go_sem, a.e 6 nk6_]) rfl,
  fun f s W c d h i j a => opv rfl rfl (by simp [go_sem, a.e 7 nk7_]) rfl,
  fun f s W c d h i j a => opr rfl rfl (by simp [go_sem, a.e 37 (d 4 rfl), a.e 38 (d 5 rfl), a.e 39 (d 6 rfl), a.e 40 (d 7 rfl)]),
  fun f s W c d h i j a => opv rfl rfl (by simp [go_sem, a.e 5 k4_5]) rfl,
  fun f s W c d h i j a => opv rfl rfl (by simp [go_sem, a.e 42 (d 9 rfl), cb b4_2 c 3]) rfl,
  fun f s W c d h i j a => by have gf_ := gfv 21; have cv_ := IntWalk.i64_in (fv 21) (by omega); exact opv rfl rfl (by simp [go_sem, a.e 43 (d 10 rfl), cv_]) rfl,
  fun f s W c d h i j a => opv rfl rfl (by simp [go_sem, a.e 44 (d 11 rfl), IntWalk.i64_in (40 + (fv 21)) (by omega)]) rfl,
  fun f s W c d h i j a => opv rfl rfl (by simp [go_sem, a.e 1 k4_1]) rfl,
  fun f s W c d h i j a => opv rfl rfl (by simp [go_sem, a.e 45 (d 12 rfl), a.e 46 (d 13 rfl), IntWalk.i64_in ((40 + (fv 21)) + mo) (by omega)]) rfl,
  fun f s W c d h i j a => opv rfl rfl (by simp [go_sem, a.e 8 nk8_]) rfl,
  fun f s W c d h i j a => opv rfl rfl (by simp [go_sem, a.e 8 nk8_]) rfl,
  fun f s W c d h i j a => opr rfl rfl (by simp [go_sem, a.e 48 (d 15 rfl), a.e 49 (d 16 rfl)]),
  fun f s W c d h i j a => opv rfl rfl (by simp [go_sem, a.e 8 nk8_]) rfl,
  fun f s W c d h i j a => opv rfl rfl (by simp [go_sem, a.e 8 nk8_]) rfl,
  fun f s W c d h i j a => opv rfl rfl (by simp [go_sem, a.e 5 k4_5]) rfl,
  fun f s W c d h i j a => opv rfl rfl (by simp [go_sem, a.e 53 (d 20 rfl), cb b4_2 c 5]) rfl,
  fun f s W c d h i j a => by have gf_ := gfv 23; have cv_ := IntWalk.i64_in (fv 23) (by omega); exact opv rfl rfl (by simp [go_sem, a.e 54 (d 21 rfl), cv_]) rfl,
  fun f s W c d h i j a => by have gf_ := gfv 23; have qu_ : ((fv 23)).tmod 4 = r4 := (Int.tmod_eq_emod_of_nonneg (by omega)).trans hr4; have qw_ := IntWalk.i64_in (r4) (by omega); exact opv rfl rfl (by simp [go_sem, a.e 55 (d 22 rfl), qu_, qw_]) rfl,
  fun f s W c d h i j a => opv rfl rfl (by simp [go_sem, a.e 52 (d 19 rfl), a.e 56 (d 23 rfl), IntWalk.i64_in (fp + r4) (by omega)]) rfl,
  fun f s W c d h i j a => opr rfl rfl (by simp [go_sem, a.e 51 (d 18 rfl), a.e 57 (d 24 rfl)]),
  fun f s W c d h i j a => opv rfl rfl (by simp [go_sem, a.e 5 k4_5]) rfl,
  fun f s W c d h i j a => opv rfl rfl (by simp [go_sem, a.e 59 (d 26 rfl), cb b4_2 c 6]) rfl,
  fun f s W c d h i j a => by have gf_ := gfv 24; have cv_ := IntWalk.i64_in (fv 24) (by omega); exact opv rfl rfl (by simp [go_sem, a.e 60 (d 27 rfl), cv_]) rfl,
  fun f s W c d h i j a => by have gf_ := gfv 24; have qu_ : ((fv 24)).tmod 21 = sl := (Int.tmod_eq_emod_of_nonneg (by omega)).trans hsl; have qw_ := IntWalk.i64_in (sl) (by omega); exact opv rfl rfl (by simp [go_sem, a.e 61 (d 28 rfl), qu_, qw_]) rfl,
  fun f s W c d h i j a => opv rfl rfl (by simp [go_sem, a.e 36 (d 3 rfl), a.e 41 (d 8 rfl).1, a.e 47 (d 14 rfl), a.e 50 (d 17 rfl).1, a.e 58 (d 25 rfl).1, a.e 62 (d 29 rfl), upd]) rfl, trivial⟩ ?_
 intro f5 s5 W5 hB5 g5 hg5
 have fB5 := hB5.f fB4
 have z5 := hB5.below.size
 have b5_0 := hB5.b b4_0
 have b5_1 := hB5.b b4_1
 have b5_2 := hB5.b b4_2
 obtain ⟨r5_8, br5_8⟩ := hB5.is 8
 have lr5_8 := hB5.lr 8 br5_8
 obtain ⟨r5_17, br5_17⟩ := hB5.is 17
 have lr5_17 := hB5.lr 17 br5_17
 obtain ⟨r5_25, br5_25⟩ := hB5.is 25
 have lr5_25 := hB5.lr 25 br5_25
 have ne5_8_17 := hB5.nb 8 17
 have ne5_8_25 := hB5.nb 8 25
 have ne5_17_25 := hB5.nb 17 25
 have k5_4 := kt hg5 4 k4_4
 have k5_63 := kt hg5 63 (hB5.is 30)
 obtain ⟨W6, hW6⟩ : ∃ W', W' = W5.setRow (s1 1) #[.int .i64 tb, .slice (some ⟨(s5 8), 0, none⟩) (4) (4), .int .i64 ((40 + (fv 21)) + mo), .slice (some ⟨(s5 17), 0, none⟩) (2) (2), .slice (some ⟨(s5 25), 0, none⟩) (2) (2), .int .i64 sl, .bool false] := ⟨_, rfl⟩
 refine tail_skip (o := _) rfl ⟨rfl, rfl⟩ (run_seg hW6 (fr_ev k5_4) (fr_ev k5_63) b5_1 rfl rfl rfl rfl) ?_
 obtain ⟨fB6, nb6, ot6, z6⟩ := seg_facts hW6 fB5 b5_1 (by omega)
 clear hW6
 have b6_0 := ot6 _ _ (by omega) b5_0
 have b6_2 := ot6 _ _ (by omega) b5_2
 have b6_3 := ot6 _ _ (by omega) br5_8
 have b6_4 := ot6 _ _ (by omega) br5_17
 have b6_5 := ot6 _ _ (by omega) br5_25
 refine wpOps_end ?_
 refine hK4 _ _ ?_
 refine wp_ret ?_
 refine leave_gen (v := .agg #[.int .i64 tb, .slice (some ⟨(s5 8), 0, none⟩) (4) (4), .int .i64 ((40 + (fv 21)) + mo), .slice (some ⟨(s5 17), 0, none⟩) (2) (2), .slice (some ⟨(s5 25), 0, none⟩) (2) (2), .int .i64 sl, .bool false]) (.inr rfl) (by simp [results, Try.results7, go_sem, frv 64 k5_4, cl nb6 0, cl nb6 1, cl nb6 2, cl nb6 3, cl nb6 4, cl nb6 5, cl nb6 6]) ?_
 exact ⟨_, rfl, ⟨_, _, _, _, _, _, by rw [hhh]; rfl, ownI_lit (xs := [lg, wd, lg, wd]) (by skip; exact b6_3) (by omega) rfl rfl, ownI_lit (xs := [fp, fp]) (by skip; exact b6_4) (by omega) rfl rfl, ownI_lit (xs := [fp, fq]) (by rw [← hfq]; exact b6_5) (by omega) rfl rfl⟩, fB6⟩
end Go.Proofs.Ytiocklgakklkpaa
namespace Go.Proofs.Ytiocklgakklkpaa
open Go.RowKit
set_option maxRecDepth 100000 in
set_option maxHeartbeats 4000000 in
theorem pubBlank_any (a1 a2 a3 : Option Addr) (c1 c2 c3 : Nat) (b : Bl) (w : World) (h1 : Ii w a1 b.panels.length c1 b.panels) (h2 : Ii w a2 b.top.length c2 b.top) (h3 : Ii w a3 b.bottom.length c3 b.bottom) (n1 : b.panels.length ≤ 1000) (n2 : b.top.length ≤ 1000) (n3 : b.bottom.length ≤ 1000) :
  Calls Try.prog 13 #[.agg #[.int .i64 b.tab, .slice (a1) (b.panels.length) (c1), .int .i64 b.height, .slice (a2) (b.top.length) (c2), .slice (a3) (b.bottom.length) (c3), .int .i64 b.slot, .bool b.isOpen]] w (NwBlkP b w) := by
 refine calls_fr Try.func13 Try.ntmps13 rfl rfl fun g hg => ?_
 have k0 : g 0 = .agg #[.int .i64 b.tab, .slice (a1) (b.panels.length) (c1), .int .i64 b.height, .slice (a2) (b.top.length) (c2), .slice (a3) (b.bottom.length) (c3), .int .i64 b.slot, .bool b.isOpen] := hg 0
 clear hg
 have fB0 : Below w.heap.size w w := Below.refl _ _
 refine wp_seq_k fun K1 hK1 => ?_
 refine region_dk 2 [(1, 0), (2, 1)] [[], []] (rel [bx 0 #[.int .i64 b.tab, .slice (a1) (b.panels.length) (c1), .int .i64 b.height, .slice (a2) (b.top.length) (c2), .slice (a3) (b.bottom.length) (c3), .int .i64 b.slot, .bool b.isOpen] 37,
   bx 1 #[.int .i64 0, .slice (none) (0) (0), .int .i64 0, .slice (none) (0) (0), .slice (none) (0) (0), .int .i64 0, .bool false] 37])
  ⟨bx_k, bx_k, trivial⟩
  ⟨fun f s W c d i j l a => opb rfl rfl (by simp [go_sem, a.e 0 k0]),
  fun f s W c d i j l a => opb rfl rfl (by simp [go_sem]), trivial⟩ ?_
 intro f1 s1 W1 hB1 g1 hg1
 have fB1 := hB1.f fB0
 have z1 := hB1.below.size
 obtain ⟨r1_0, br1_0⟩ := hB1.is 0
 have lr1_0 := hB1.lr 0 br1_0
 obtain ⟨r1_1, br1_1⟩ := hB1.is 1
 have lr1_1 := hB1.lr 1 br1_1
 have ne1_0_1 := hB1.nb 0 1
 refine hK1 _ _ ?_
 have k1_1 := kt hg1 1 r1_0
 have k1_2 := kt hg1 2 r1_1
 refine wp_seq_k fun K2 hK2 => ?_
 refine region_dk 10 [(3, 0), (4, 1), (5, 2), (6, 3), (7, 4), (8, 5), (9, 6), (10, 7), (11, 8), (12, 9), (13, 11), (14, 13)] [[], [0], [0, 1], [], [3], [0, 1, 2, 3, 4], [], [6], [0, 1, 2, 3, 4, 5, 6, 7], [0, 1, 2, 3, 4, 6, 7], [0, 1, 2, 3, 4, 5, 6, 7, 8, 9], [0, 1, 2, 3, 4, 5, 6, 7, 8, 9, 10], [0, 1, 2, 3, 4, 5, 6, 7, 8, 9, 10, 11], [0, 1, 2, 3, 4, 5, 6, 7, 8, 9, 10, 11, 12], [0, 1, 2, 3, 4, 5, 6, 7, 8, 9, 10, 11, 12, 13]] (rel [is (.pointer (some ⟨(s1 0), 1, none⟩)),
   is (.slice (a1) (b.panels.length) (c1)),
   fun v s W => NwIi (s 2) (b.panels) v W,
   is (.pointer (some ⟨(s1 0), 3, none⟩)),
   is (.slice (a2) (b.top.length) (c2)),
   fun v s W => NwIi (s 5) (b.top) v W,
   is (.pointer (some ⟨(s1 0), 4, none⟩)),
   is (.slice (a3) (b.bottom.length) (c3)),
   fun v s W => NwIi (s 8) (b.bottom) v W,
   is (.pointer (some ⟨(s1 0), 1, none⟩))])
  ⟨is_k, is_k, ⟨fun v k W W' hb h => h.below hb, fun v s s' W e h => by have h' : NwIi (s 2) (b.panels) v W := h; show NwIi (s' 2) (b.panels) v W; rw [← e 2 (by simp)]; exact h'⟩, is_k, is_k, ⟨fun v k W W' hb h => h.below hb, fun v s s' W e h => by have h' : NwIi (s 5) (b.top) v W := h; show NwIi (s' 5) (b.top) v W; rw [← e 5 (by simp)]; exact h'⟩, is_k, is_k, ⟨fun v k W W' hb h => h.below hb, fun v s s' W e h => by have h' : NwIi (s 8) (b.bottom) v W := h; show NwIi (s' 8) (b.bottom) v W; rw [← e 8 (by simp)]; exact h'⟩, is_k, trivial⟩
  ⟨fun f s W c d i j l a => opv rfl rfl (by simp [go_sem, a.e 1 k1_1]) rfl,
  fun f s W c d i j l a => opv rfl rfl (by simp [go_sem, a.e 3 (d 0 rfl), cb br1_0 c 1]) rfl,
  fun f s W c d i j l a => by have m := below_trans fB1 c; exact opDo_call rfl rfl (by simp [go_sem, a.e 4 (d 1 rfl)]) (pubInts_any a1 c1 b.panels W (h1.below m (Nat.le_refl _)) n1) (fun e W' h => by obtain ⟨v, e1, h1, h2⟩ := h; exact ⟨v, e1, h2, (show NwIi (upd s 2 W.heap.size 2) (b.panels) v W' from by rw [upd_at]; exact h1)⟩),
  fun f s W c d i j l a => opv rfl rfl (by simp [go_sem, a.e 1 k1_1]) rfl,
  fun f s W c d i j l a => opv rfl rfl (by simp [go_sem, a.e 6 (d 3 rfl), cb br1_0 c 3]) rfl,
  fun f s W c d i j l a => by have m := below_trans fB1 c; exact opDo_call rfl rfl (by simp [go_sem, a.e 7 (d 4 rfl)]) (pubInts_any a2 c2 b.top W (h2.below m (Nat.le_refl _)) n2) (fun e W' h => by obtain ⟨v, e1, h1, h2⟩ := h; exact ⟨v, e1, h2, (show NwIi (upd s 5 W.heap.size 5) (b.top) v W' from by rw [upd_at]; exact h1)⟩),
  fun f s W c d i j l a => opv rfl rfl (by simp [go_sem, a.e 1 k1_1]) rfl,
  fun f s W c d i j l a => opv rfl rfl (by simp [go_sem, a.e 9 (d 6 rfl), cb br1_0 c 4]) rfl,
  fun f s W c d i j l a => by have m := below_trans fB1 c; exact opDo_call rfl rfl (by simp [go_sem, a.e 10 (d 7 rfl)]) (pubInts_any a3 c3 b.bottom W (h3.below m (Nat.le_refl _)) n3) (fun e W' h => by obtain ⟨v, e1, h1, h2⟩ := h; exact ⟨v, e1, h2, (show NwIi (upd s 8 W.heap.size 8) (b.bottom) v W' from by rw [upd_at]; exact h1)⟩),
  fun f s W c d i j l a => opv rfl rfl (by simp [go_sem, a.e 1 k1_1]) rfl, trivial⟩ ?_
 intro f2 s2 W2 hB2 g2 hg2
 have fB2 := hB2.f fB1
 have z2 := hB2.below.size
 have b2_0 := hB2.b br1_0
 have b2_1 := hB2.b br1_1
 obtain ⟨g16', c17', r2_2, q18', q20', q19'⟩ := hB2.is 2
 obtain ⟨g21', c22', r2_5, q23', q25', q24'⟩ := hB2.is 5
 obtain ⟨g26', c27', r2_8, q28', q30', q29'⟩ := hB2.is 8
 have la2_2 := hB2.from' 2 (by decide)
 have la2_5 := hB2.from' 5 (by decide)
 have la2_8 := hB2.from' 8 (by decide)
 have k2_1 := kt hg2 1 k1_1
 have k2_2 := kt hg2 2 k1_2
 have k2_5 := kt hg2 5 r2_2
 have k2_8 := kt hg2 8 r2_5
 have k2_11 := kt hg2 11 r2_8
 have k2_12 := kt hg2 12 (hB2.is 9)
 obtain ⟨W3, hW3⟩ : ∃ W', W' = W2.setRow (s1 0) #[.int .i64 b.tab, .slice (some ⟨g16', 0, none⟩) ((b.panels).length) (c17'), .int .i64 b.height, .slice (a2) (b.top.length) (c2), .slice (a3) (b.bottom.length) (c3), .int .i64 b.slot, .bool b.isOpen] := ⟨_, rfl⟩
 refine tail_skip (o := _) rfl ⟨rfl, rfl⟩ (run_seg hW3 (fr_ev k2_12) (fr_ev k2_5) b2_0 rfl rfl rfl rfl) ?_
 obtain ⟨fB3, nb3, ot3, z3⟩ := seg_facts hW3 fB2 b2_0 (by omega)
 clear hW3
 have b3_1 := ot3 _ _ (by omega) b2_1
 have q31' := (q18'.other ot3 q19' (by omega) z3)
 have q32' := Nat.lt_of_lt_of_le q19' z3
 have q33' := (q23'.other ot3 q24' (by omega) z3)
 have q34' := Nat.lt_of_lt_of_le q24' z3
 have q35' := (q28'.other ot3 q29' (by omega) z3)
 have q36' := Nat.lt_of_lt_of_le q29' z3
 refine tail_value (o := _) rfl rfl rfl (v := .pointer (some ⟨(s1 0), 3, none⟩)) (by simp [go_sem, frv 16 k2_1]) ?_
 generalize hg4 : upd g2 13 (.pointer (some ⟨(s1 0), 3, none⟩)) = g4
 have k4_1 := ku hg4 1 k2_1
 have k4_2 := ku hg4 2 k2_2
 have k4_8 := ku hg4 8 k2_8
 have k4_11 := ku hg4 11 k2_11
 have k4_13 := kt hg4 13 (upd_same _ _ _)
 obtain ⟨W5, hW5⟩ : ∃ W', W' = W3.setRow (s1 0) #[.int .i64 b.tab, .slice (some ⟨g16', 0, none⟩) ((b.panels).length) (c17'), .int .i64 b.height, .slice (some ⟨g21', 0, none⟩) ((b.top).length) (c22'), .slice (a3) (b.bottom.length) (c3), .int .i64 b.slot, .bool b.isOpen] := ⟨_, rfl⟩
 refine tail_skip (o := _) rfl ⟨rfl, rfl⟩ (run_seg hW5 (fr_ev k4_13) (fr_ev k4_8) nb3 rfl rfl rfl rfl) ?_
 obtain ⟨fB5, nb5, ot5, z5⟩ := seg_facts hW5 fB3 nb3 (by omega)
 clear hW5
 have b5_1 := ot5 _ _ (by omega) b3_1
 have q37' := (q31'.other ot5 q32' (by omega) z5)
 have q38' := Nat.lt_of_lt_of_le q32' z5
 have q39' := (q33'.other ot5 q34' (by omega) z5)
 have q40' := Nat.lt_of_lt_of_le q34' z5
 have q41' := (q35'.other ot5 q36' (by omega) z5)
 have q42' := Nat.lt_of_lt_of_le q36' z5
 refine tail_value (o := _) rfl rfl rfl (v := .pointer (some ⟨(s1 0), 4, none⟩)) (by simp [go_sem, frv 16 k4_1]) ?_
 generalize hg6 : upd g4 14 (.pointer (some ⟨(s1 0), 4, none⟩)) = g6
 have k6_1 := ku hg6 1 k4_1
 have k6_2 := ku hg6 2 k4_2
 have k6_11 := ku hg6 11 k4_11
 have k6_14 := kt hg6 14 (upd_same _ _ _)
 obtain ⟨W7, hW7⟩ : ∃ W', W' = W5.setRow (s1 0) #[.int .i64 b.tab, .slice (some ⟨g16', 0, none⟩) ((b.panels).length) (c17'), .int .i64 b.height, .slice (some ⟨g21', 0, none⟩) ((b.top).length) (c22'), .slice (some ⟨g26', 0, none⟩) ((b.bottom).length) (c27'), .int .i64 b.slot, .bool b.isOpen] := ⟨_, rfl⟩
 refine tail_skip (o := _) rfl ⟨rfl, rfl⟩ (run_seg hW7 (fr_ev k6_14) (fr_ev k6_11) nb5 rfl rfl rfl rfl) ?_
 obtain ⟨fB7, nb7, ot7, z7⟩ := seg_facts hW7 fB5 nb5 (by omega)
 clear hW7
 have b7_1 := ot7 _ _ (by omega) b5_1
 have q43' := (q37'.other ot7 q38' (by omega) z7)
 have q44' := Nat.lt_of_lt_of_le q38' z7
 have q45' := (q39'.other ot7 q40' (by omega) z7)
 have q46' := Nat.lt_of_lt_of_le q40' z7
 have q47' := (q41'.other ot7 q42' (by omega) z7)
 have q48' := Nat.lt_of_lt_of_le q42' z7
 refine wpOps_end ?_
 refine hK2 _ _ ?_
 refine wp_seq_k fun K3 hK3 => ?_
 refine region_dk 1 [(15, 0)] [[], [0]] (rel [is (.agg #[.int .i64 b.tab, .slice (some ⟨g16', 0, none⟩) ((b.panels).length) (c17'), .int .i64 b.height, .slice (some ⟨g21', 0, none⟩) ((b.top).length) (c22'), .slice (some ⟨g26', 0, none⟩) ((b.bottom).length) (c27'), .int .i64 b.slot, .bool b.isOpen])])
  ⟨is_k, trivial⟩
  ⟨fun f s W c d i j l a => opv rfl rfl (by simp [go_sem, a.e 1 k6_1, cb nb7 c 0, cb nb7 c 1, cb nb7 c 2, cb nb7 c 3, cb nb7 c 4, cb nb7 c 5, cb nb7 c 6]) rfl, trivial⟩ ?_
 intro f8 s8 W8 hB8 g8 hg8
 have fB8 := hB8.f fB7
 have z8 := hB8.below.size
 have b8_0 := hB8.b nb7
 have b8_1 := hB8.b b7_1
 have q49' := q43'.bw hB8
 have q50' := (hB8.lt q44')
 have q51' := q45'.bw hB8
 have q52' := (hB8.lt q46')
 have q53' := q47'.bw hB8
 have q54' := (hB8.lt q48')
 have k8_2 := kt hg8 2 k6_2
 have k8_15 := kt hg8 15 (hB8.is 0)
 obtain ⟨W9, hW9⟩ : ∃ W', W' = W8.setRow (s1 1) #[.int .i64 b.tab, .slice (some ⟨g16', 0, none⟩) ((b.panels).length) (c17'), .int .i64 b.height, .slice (some ⟨g21', 0, none⟩) ((b.top).length) (c22'), .slice (some ⟨g26', 0, none⟩) ((b.bottom).length) (c27'), .int .i64 b.slot, .bool b.isOpen] := ⟨_, rfl⟩
 refine tail_skip (o := _) rfl ⟨rfl, rfl⟩ (run_seg hW9 (fr_ev k8_2) (fr_ev k8_15) b8_1 rfl rfl rfl rfl) ?_
 obtain ⟨fB9, nb9, ot9, z9⟩ := seg_facts hW9 fB8 b8_1 (by omega)
 clear hW9
 have b9_0 := ot9 _ _ (by omega) b8_0
 have q55' := (q49'.other ot9 q50' (by omega) z9)
 have q56' := Nat.lt_of_lt_of_le q50' z9
 have q57' := (q51'.other ot9 q52' (by omega) z9)
 have q58' := Nat.lt_of_lt_of_le q52' z9
 have q59' := (q53'.other ot9 q54' (by omega) z9)
 have q60' := Nat.lt_of_lt_of_le q54' z9
 refine wpOps_end ?_
 refine hK3 _ _ ?_
 refine wp_ret ?_
 refine leave_gen (v := .agg #[.int .i64 b.tab, .slice (some ⟨g16', 0, none⟩) ((b.panels).length) (c17'), .int .i64 b.height, .slice (some ⟨g21', 0, none⟩) ((b.top).length) (c22'), .slice (some ⟨g26', 0, none⟩) ((b.bottom).length) (c27'), .int .i64 b.slot, .bool b.isOpen]) (.inr rfl) (by simp [results, Try.results13, go_sem, frv 16 k8_2, cl nb9 0, cl nb9 1, cl nb9 2, cl nb9 3, cl nb9 4, cl nb9 5, cl nb9 6]) ?_
 exact ⟨_, rfl, ⟨_, _, _, _, _, _, rfl, ⟨q55', by omega, q56'⟩, ⟨q57', by omega, q58'⟩, ⟨q59', by omega, q60'⟩⟩, fB9⟩
end Go.Proofs.Ytiocklgakklkpaa
