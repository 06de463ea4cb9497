/- Part of the proof: what the claim leans on. -/
import Derived.Test.YtolnpbpeifpbjaaVAS
import Derived.Test.YtolnpbpeifpbjaaVAV
import Derived.Test.YtolnpbpeifpbjaaVAT
import Derived.Test.YtolnpbpeifpbjaaVAF
import Derived.Test.YtolnpbpeifpbjaaVAM
import Derived.Test.YtolnpbpeifpbjaaVAI
import Derived.Test.YtolnpbpeifpbjaaVAB
import Derived.Test.YtolnpbpeifpbjaaVAH
import Derived.RangeFuncNested
import Derived.RangeFuncBound
import Derived.RangeFuncCalls
import Derived.RangeFuncLeaves
import Derived.Shelf.Abstract
import Derived.Shelf.RegionOpen
import Derived.WalkKit
import Derived.OwnWalkIn
import Derived.TacticsInMore
import Derived.LoopNIn
import Derived.LoopIn
import Derived.Test.YtolnpbpeifpbjaaVAJ
set_option linter.unusedSimpArgs false
set_option linter.unusedVariables false
namespace Go.Proofs.Ytolnpbpeifpbjaa
open Go.RowKit
structure FoldIn (ps : Nat → Pa) (qs : Nat → Fu) : Prop where
  p : ∀ i, i < 3 → PaIn (ps i)
  q : ∀ i, i < 2 → FuIn (qs i)
  k0 : (ps 0).kind = 1
  k1 : (ps 1).kind = 2
  k2 : (ps 2).kind = 1
def o1 (p : Pa) : Int := p.weight * (1000 + p.m1)
def o2 (p : Pa) : Int := p.weight * (1000 + p.m2)
def s1S (a b c : Int) (f : Fu) : Int := sumS (fun i => [a, b, c].getD i 0) (fun i => [f.pitch, 1 * f.draw, f.pitch].getD i 0) 3
def hi1 (ps : Nat → Pa) (qs : Nat → Fu) : Int := (((ps 0).t2 + (ps 2).t2) + (qs 0).h2)
theorem prod_bd {a b A B : Int} (h1 : 0 ≤ a ∧ a ≤ A) (h2 : 0 ≤ b ∧ b ≤ B) : 0 ≤ a * b ∧ a * b ≤ A * B :=
  ⟨Int.mul_nonneg h1.1 h2.1, Int.mul_le_mul h1.2 h2.2 h2.1 (by omega)⟩
theorem o1_bd {p : Pa} (h : PaIn p) : 0 ≤ o1 p ∧ o1 p ≤ 1200000 := by
  have := h.weight; have := h.moist
  exact prod_bd (A := 1000) (B := 1200) (by omega) (by omega)
theorem o2_bd {p : Pa} (h : PaIn p) : 0 ≤ o2 p ∧ o2 p ≤ 1200000 := by
  have := h.weight; have := h.moist
  exact prod_bd (A := 1000) (B := 1200) (by omega) (by omega)
theorem div_bd {a b : Int} (ha : 0 ≤ a ∧ a ≤ 10000000000000000) (hb : 1 ≤ b) : 0 ≤ a / b ∧ a / b ≤ 10000000000000000 := by
  refine ⟨Int.ediv_nonneg ha.1 (by omega), ?_⟩
  have := Int.ediv_le_self b ha.1
  omega
theorem getD3 {p : Int → Prop} {a b c : Int} (h0 : p a) (h1 : p b) (h2 : p c) : ∀ i, i < 3 → p ([a, b, c].getD i 0) := fun i hi => by
  match i, hi with
  | 0, _ => exact h0
  | 1, _ => exact h1
  | 2, _ => exact h2
theorem getD5 {p : Int → Prop} {a b c d e : Int} (h0 : p a) (h1 : p b) (h2 : p c) (h3 : p d) (h4 : p e) : ∀ i, i < 5 → p ([a, b, c, d, e].getD i 0) := fun i hi => by
  match i, hi with
  | 0, _ => exact h0
  | 1, _ => exact h1
  | 2, _ => exact h2
  | 3, _ => exact h3
  | 4, _ => exact h4
theorem s1S_bd {a b c : Int} {f : Fu} (hf : FuIn f) (ha : 0 ≤ a ∧ a ≤ 1200000) (hb : 0 ≤ b ∧ b ≤ 1200000) (hc : 0 ≤ c ∧ c ≤ 1200000) : 0 ≤ s1S a b c f ∧ s1S a b c f ≤ 10000000000000000 := by
  have := hf.pitch; have := hf.draw
  have h := sumS_bd (o := fun i => [a, b, c].getD i 0) (p := fun i => [f.pitch, 1 * f.draw, f.pitch].getD i 0) (m := 3) (fun i hi => by
    have := prod_bd (A := 1200000) (B := 200000000) (getD3 (p := fun x => 0 ≤ x ∧ x ≤ 1200000) ha hb hc i hi) (getD3 (p := fun x => 0 ≤ x ∧ x ≤ 200000000) (a := f.pitch) (b := 1 * f.draw) (c := f.pitch) (by omega) (by omega) (by omega) i hi)
    omega) 3 (Nat.le_refl _)
  unfold s1S
  omega
open Go.RowKit
def s5S (a b c d e : Int) (f g : Fu) : Int := sumS (fun i => [a, b, c, d, e].getD i 0) (fun i => [f.pitch * g.pitch, g.pitch * f.draw, f.pitch * g.pitch, f.pitch * g.draw, f.pitch * g.pitch].getD i 0) 5
theorem s5S_bd {a b c d e : Int} {f g : Fu} (hf : FuIn f) (hg : FuIn g) (ha : 0 ≤ a ∧ a ≤ 1200000) (hb : 0 ≤ b ∧ b ≤ 1200000) (hc : 0 ≤ c ∧ c ≤ 1200000) (hd : 0 ≤ d ∧ d ≤ 1200000) (he : 0 ≤ e ∧ e ≤ 1200000) : 0 ≤ s5S a b c d e f g ∧ s5S a b c d e f g ≤ 10000000000000000 := by
  have := hf.pitch; have := hf.draw; have := hg.pitch; have := hg.draw
  have e1 := prod_bd (a := f.pitch) (b := g.pitch) (A := 10000) (B := 10000) (by omega) (by omega)
  have e2 := prod_bd (a := g.pitch) (b := f.draw) (A := 10000) (B := 20000) (by omega) (by omega)
  have e3 := prod_bd (a := f.pitch) (b := g.draw) (A := 10000) (B := 20000) (by omega) (by omega)
  have h := sumS_bd (o := fun i => [a, b, c, d, e].getD i 0) (p := fun i => [f.pitch * g.pitch, g.pitch * f.draw, f.pitch * g.pitch, f.pitch * g.draw, f.pitch * g.pitch].getD i 0) (m := 5) (fun i hi => by
    have := prod_bd (A := 1200000) (B := 200000000) (getD5 (p := fun x => 0 ≤ x ∧ x ≤ 1200000) ha hb hc hd he i hi) (getD5 (p := fun x => 0 ≤ x ∧ x ≤ 200000000) (a := f.pitch * g.pitch) (b := g.pitch * f.draw) (c := f.pitch * g.pitch) (d := f.pitch * g.draw) (e := f.pitch * g.pitch) (by omega) (by omega) (by omega) (by omega) (by omega) i hi)
    omega) 5 (Nat.le_refl _)
  unfold s5S
  omega
theorem paZ_t {bv : Nat → Nat → Int} (h : ∀ i j, 0 ≤ bv i j ∧ bv i j ≤ 255) (i : Nat) : 1 ≤ (paZ bv i).t1 ∧ (paZ bv i).t1 ≤ (paZ bv i).t2 ∧ (paZ bv i).t2 ≤ 336 := by
  have g0 := h i 0; have g2 := h i 2
  show 1 ≤ 50 + bv i 2 ∧ 50 + bv i 2 ≤ (50 + bv i 2) + bv i 0 / 8 ∧ (50 + bv i 2) + bv i 0 / 8 ≤ 336
  omega
theorem fuW_h {fb : Nat → Nat → Int} (h : ∀ i j, 0 ≤ fb i j ∧ fb i j ≤ 255) (i : Nat) : 1 ≤ (fuW fb i).h1 ∧ (fuW fb i).h1 ≤ (fuW fb i).h2 ∧ (fuW fb i).h2 ≤ 3139 := by
  have g1 := h i 1; have g2 := h i 2
  show 1 ≤ 500 + 10 * fb i 2 ∧ 500 + 10 * fb i 2 ≤ (500 + 10 * fb i 2) + fb i 1 % 90 ∧ (500 + 10 * fb i 2) + fb i 1 % 90 ≤ 3139
  omega
def MeasW (n mm : Nat) (bv fb : Nat → Nat → Int) (nb : Nat) (bs : Nat → Int) (m1 m2 ka kb : Int) : Prop := ∀ (W : World) (g1 c1 g2 c2 : Nat) (v : Value), PaR W g1 0 n (paZ bv) → FuR W g2 0 mm (fuW fb) → MkV n mm (paZ bv) nb bs v W →
    Calls Try.prog 14 #[.agg #[.slice (some ⟨g1, 0, none⟩) n c1, .slice (some ⟨g2, 0, none⟩) mm c2], v] W (fun e w' => e = .returned (.tuple #[.agg #[.int .i64 m1, .int .i64 m2], .agg #[.int .i64 ka, .int .i64 kb], .int .i64 0]) ∧ Below W.heap.size W w')
theorem measure_w {bv fb : Nat → Nat → Int} (hbv : ∀ i j, 0 ≤ bv i j ∧ bv i j ≤ 255) (hfb : ∀ i j, 0 ≤ fb i j ∧ fb i j ≤ 255) {n mm nb : Nat} {bs : Nat → Int} (hn : 2 ≤ n ∧ n ≤ 5) (hm : 1 ≤ mm ∧ mm ≤ 3) (hk : MkIn n (paZ bv) nb bs) :
    ∃ m1 m2 ka kb : Int, (1 ≤ ka ∧ ka ≤ kb ∧ kb ≤ 10000) ∧ MeasW n mm bv fb nb bs m1 m2 ka kb := by
  rcases Int.emod_two_eq (byAt nb bs 0) with hy | hy
  · refine ⟨(s1S (o1 (paZ bv (pkW (paZ bv) 1 n nb bs 1))) (o1 (paZ bv (pkW (paZ bv) 2 n nb bs 2))) (o1 (paZ bv (pkW (paZ bv) 1 n nb bs 3))) (fuW fb (ixW nb bs 7 mm))) / (1000 * ((fuW fb (ixW nb bs 7 mm)).pitch)), (s1S (o2 (paZ bv (pkW (paZ bv) 1 n nb bs 1))) (o2 (paZ bv (pkW (paZ bv) 2 n nb bs 2))) (o2 (paZ bv (pkW (paZ bv) 1 n nb bs 3))) (fuW fb (ixW nb bs 7 mm))) / (1000 * ((fuW fb (ixW nb bs 7 mm)).pitch)), (((paZ bv (pkW (paZ bv) 1 n nb bs 1))).t1 + ((paZ bv (pkW (paZ bv) 1 n nb bs 3))).t1) + ((fuW fb (ixW nb bs 7 mm))).h1, (((paZ bv (pkW (paZ bv) 1 n nb bs 1))).t2 + ((paZ bv (pkW (paZ bv) 1 n nb bs 3))).t2) + ((fuW fb (ixW nb bs 7 mm))).h2, ?_, fun W g1 c1 g2 c2 v hP hQ hM => ?_⟩
    · have := paZ_t hbv (pkW (paZ bv) 1 n nb bs 1); have := paZ_t hbv (pkW (paZ bv) 1 n nb bs 3); have := fuW_h hfb (ixW nb bs 7 mm); omega
    · obtain ⟨u, rfl, ⟨hx, x1, d1, x2, d2, rfl, hX, hF⟩ | ⟨hx, x1, d1, x2, d2, rfl, hX, hF⟩⟩ := hM
      · have hf := fuW_in hfb (ixW nb bs 7 mm)
        have := hf.pitch; have := hf.draw
        have a0 := o1_bd (paZ_in hbv (pkW (paZ bv) 1 n nb bs 1)); have b0 := o2_bd (paZ_in hbv (pkW (paZ bv) 1 n nb bs 1))
        have a1 := o1_bd (paZ_in hbv (pkW (paZ bv) 2 n nb bs 2)); have b1 := o2_bd (paZ_in hbv (pkW (paZ bv) 2 n nb bs 2))
        have a2 := o1_bd (paZ_in hbv (pkW (paZ bv) 1 n nb bs 3)); have b2 := o2_bd (paZ_in hbv (pkW (paZ bv) 1 n nb bs 3))
        have hsa := s1S_bd hf a0 a1 a2
        have hsb := s1S_bd hf b0 b1 b2
        exact Measure_1 (paZ bv) (fuW fb) (g1) (0) (n) (c1) (g2) (0) (mm) (c2) (x1) (0) (d1) (x2) (0) (d2) ((pkW (paZ bv) 1 n nb bs 1)) ((pkW (paZ bv) 2 n nb bs 2)) ((pkW (paZ bv) 1 n nb bs 3)) ((ixW nb bs 7 mm)) ((paZ bv (pkW (paZ bv) 1 n nb bs 1))) ((paZ bv (pkW (paZ bv) 2 n nb bs 2))) ((paZ bv (pkW (paZ bv) 1 n nb bs 3))) ((fuW fb (ixW nb bs 7 mm))) ((fuW fb (ixW nb bs 7 mm)).pitch) (1) (s1S (o1 (paZ bv (pkW (paZ bv) 1 n nb bs 1))) (o1 (paZ bv (pkW (paZ bv) 2 n nb bs 2))) (o1 (paZ bv (pkW (paZ bv) 1 n nb bs 3))) (fuW fb (ixW nb bs 7 mm))) (s1S (o2 (paZ bv (pkW (paZ bv) 1 n nb bs 1))) (o2 (paZ bv (pkW (paZ bv) 2 n nb bs 2))) (o2 (paZ bv (pkW (paZ bv) 1 n nb bs 3))) (fuW fb (ixW nb bs 7 mm))) ((s1S (o1 (paZ bv (pkW (paZ bv) 1 n nb bs 1))) (o1 (paZ bv (pkW (paZ bv) 2 n nb bs 2))) (o1 (paZ bv (pkW (paZ bv) 1 n nb bs 3))) (fuW fb (ixW nb bs 7 mm))) / (1000 * ((fuW fb (ixW nb bs 7 mm)).pitch))) ((s1S (o2 (paZ bv (pkW (paZ bv) 1 n nb bs 1))) (o2 (paZ bv (pkW (paZ bv) 2 n nb bs 2))) (o2 (paZ bv (pkW (paZ bv) 1 n nb bs 3))) (fuW fb (ixW nb bs 7 mm))) / (1000 * ((fuW fb (ixW nb bs 7 mm)).pitch))) ((((paZ bv (pkW (paZ bv) 1 n nb bs 1))).t1 + ((paZ bv (pkW (paZ bv) 1 n nb bs 3))).t1) + ((fuW fb (ixW nb bs 7 mm))).h1) ((((paZ bv (pkW (paZ bv) 1 n nb bs 1))).t2 + ((paZ bv (pkW (paZ bv) 1 n nb bs 3))).t2) + ((fuW fb (ixW nb bs 7 mm))).h2) (fun i => [o1 (paZ bv (pkW (paZ bv) 1 n nb bs 1)), o1 (paZ bv (pkW (paZ bv) 2 n nb bs 2)), o1 (paZ bv (pkW (paZ bv) 1 n nb bs 3))].getD i 0) (fun i => [o2 (paZ bv (pkW (paZ bv) 1 n nb bs 1)), o2 (paZ bv (pkW (paZ bv) 2 n nb bs 2)), o2 (paZ bv (pkW (paZ bv) 1 n nb bs 3))].getD i 0) (W) (hP) (hQ) (fun i _ => paZ_in hbv i) (fun i _ => fuW_in hfb i) (by omega) (by omega) (by omega) (by omega) (hX.ii) (hF.ii) ((hk.k1 1).1) (rfl) ((hk.k2 2).1) (rfl) ((hk.k1 3).1) (rfl) (ix_lt (by omega)) (rfl) ((hk.k1 1).2) ((hk.k2 2).2) ((hk.k1 3).2) (rfl) (by omega) (by omega) (Int.ediv_self (by omega)) (by omega) (by omega) (by omega) (by omega) (rfl) (hsa) (rfl) (div_bd hsa (by omega)) (getD3 (p := fun x => 0 ≤ x ∧ x ≤ 1200000) a0 a1 a2) (rfl) (rfl) (rfl) (rfl) (rfl) (hsb) (rfl) (div_bd hsb (by omega)) (getD3 (p := fun x => 0 ≤ x ∧ x ≤ 1200000) b0 b1 b2) (rfl) (rfl) (rfl) (rfl)
      · omega
  · refine ⟨(s5S (o1 (paZ bv (pkW (paZ bv) 1 n nb bs 1))) (o1 (paZ bv (pkW (paZ bv) 2 n nb bs 2))) (o1 (paZ bv (pkW (paZ bv) 1 n nb bs 3))) (o1 (paZ bv (pkW (paZ bv) 2 n nb bs 4))) (o1 (paZ bv (pkW (paZ bv) 1 n nb bs 5))) (fuW fb (ixW nb bs 7 mm)) (fuW fb (ixW nb bs 9 mm))) / (1000 * ((fuW fb (ixW nb bs 7 mm)).pitch * (fuW fb (ixW nb bs 9 mm)).pitch)), (s5S (o2 (paZ bv (pkW (paZ bv) 1 n nb bs 1))) (o2 (paZ bv (pkW (paZ bv) 2 n nb bs 2))) (o2 (paZ bv (pkW (paZ bv) 1 n nb bs 3))) (o2 (paZ bv (pkW (paZ bv) 2 n nb bs 4))) (o2 (paZ bv (pkW (paZ bv) 1 n nb bs 5))) (fuW fb (ixW nb bs 7 mm)) (fuW fb (ixW nb bs 9 mm))) / (1000 * ((fuW fb (ixW nb bs 7 mm)).pitch * (fuW fb (ixW nb bs 9 mm)).pitch)), (((((paZ bv (pkW (paZ bv) 1 n nb bs 1))).t1 + ((paZ bv (pkW (paZ bv) 1 n nb bs 3))).t1) + ((paZ bv (pkW (paZ bv) 1 n nb bs 5))).t1) + ((fuW fb (ixW nb bs 7 mm))).h1) + ((fuW fb (ixW nb bs 9 mm))).h1, (((((paZ bv (pkW (paZ bv) 1 n nb bs 1))).t2 + ((paZ bv (pkW (paZ bv) 1 n nb bs 3))).t2) + ((paZ bv (pkW (paZ bv) 1 n nb bs 5))).t2) + ((fuW fb (ixW nb bs 7 mm))).h2) + ((fuW fb (ixW nb bs 9 mm))).h2, ?_, fun W g1 c1 g2 c2 v hP hQ hM => ?_⟩
    · have := paZ_t hbv (pkW (paZ bv) 1 n nb bs 1); have := paZ_t hbv (pkW (paZ bv) 1 n nb bs 3); have := paZ_t hbv (pkW (paZ bv) 1 n nb bs 5); have := fuW_h hfb (ixW nb bs 7 mm); have := fuW_h hfb (ixW nb bs 9 mm); omega
    · obtain ⟨u, rfl, ⟨hx, x1, d1, x2, d2, rfl, hX, hF⟩ | ⟨hx, x1, d1, x2, d2, rfl, hX, hF⟩⟩ := hM
      · omega
      · have hf := fuW_in hfb (ixW nb bs 7 mm)
        have hg := fuW_in hfb (ixW nb bs 9 mm)
        have := hf.pitch; have := hf.draw
        have := hg.pitch; have := hg.draw
        have e1 := prod_bd (a := (fuW fb (ixW nb bs 7 mm)).pitch) (b := (fuW fb (ixW nb bs 9 mm)).pitch) (A := 10000) (B := 10000) (by omega) (by omega)
        have e2 := prod_bd (a := (fuW fb (ixW nb bs 9 mm)).pitch) (b := (fuW fb (ixW nb bs 7 mm)).draw) (A := 10000) (B := 20000) (by omega) (by omega)
        have e3 := prod_bd (a := (fuW fb (ixW nb bs 7 mm)).pitch) (b := (fuW fb (ixW nb bs 9 mm)).draw) (A := 10000) (B := 20000) (by omega) (by omega)
        have e4 : 1000 * 1000 ≤ (fuW fb (ixW nb bs 7 mm)).pitch * (fuW fb (ixW nb bs 9 mm)).pitch := Int.mul_le_mul (by omega) (by omega) (by decide) (by omega)
        have a0 := o1_bd (paZ_in hbv (pkW (paZ bv) 1 n nb bs 1)); have b0 := o2_bd (paZ_in hbv (pkW (paZ bv) 1 n nb bs 1))
        have a1 := o1_bd (paZ_in hbv (pkW (paZ bv) 2 n nb bs 2)); have b1 := o2_bd (paZ_in hbv (pkW (paZ bv) 2 n nb bs 2))
        have a2 := o1_bd (paZ_in hbv (pkW (paZ bv) 1 n nb bs 3)); have b2 := o2_bd (paZ_in hbv (pkW (paZ bv) 1 n nb bs 3))
        have a3 := o1_bd (paZ_in hbv (pkW (paZ bv) 2 n nb bs 4)); have b3 := o2_bd (paZ_in hbv (pkW (paZ bv) 2 n nb bs 4))
        have a4 := o1_bd (paZ_in hbv (pkW (paZ bv) 1 n nb bs 5)); have b4 := o2_bd (paZ_in hbv (pkW (paZ bv) 1 n nb bs 5))
        have hsa := s5S_bd hf hg a0 a1 a2 a3 a4
        have hsb := s5S_bd hf hg b0 b1 b2 b3 b4
        exact Measure_2 (paZ bv) (fuW fb) (g1) (0) (n) (c1) (g2) (0) (mm) (c2) (x1) (0) (d1) (x2) (0) (d2) ((pkW (paZ bv) 1 n nb bs 1)) ((pkW (paZ bv) 2 n nb bs 2)) ((pkW (paZ bv) 1 n nb bs 3)) ((pkW (paZ bv) 2 n nb bs 4)) ((pkW (paZ bv) 1 n nb bs 5)) ((ixW nb bs 7 mm)) ((ixW nb bs 9 mm)) ((paZ bv (pkW (paZ bv) 1 n nb bs 1))) ((paZ bv (pkW (paZ bv) 2 n nb bs 2))) ((paZ bv (pkW (paZ bv) 1 n nb bs 3))) ((paZ bv (pkW (paZ bv) 2 n nb bs 4))) ((paZ bv (pkW (paZ bv) 1 n nb bs 5))) ((fuW fb (ixW nb bs 7 mm))) ((fuW fb (ixW nb bs 9 mm))) ((fuW fb (ixW nb bs 7 mm)).pitch * (fuW fb (ixW nb bs 9 mm)).pitch) ((fuW fb (ixW nb bs 9 mm)).pitch) ((fuW fb (ixW nb bs 7 mm)).pitch) (s5S (o1 (paZ bv (pkW (paZ bv) 1 n nb bs 1))) (o1 (paZ bv (pkW (paZ bv) 2 n nb bs 2))) (o1 (paZ bv (pkW (paZ bv) 1 n nb bs 3))) (o1 (paZ bv (pkW (paZ bv) 2 n nb bs 4))) (o1 (paZ bv (pkW (paZ bv) 1 n nb bs 5))) (fuW fb (ixW nb bs 7 mm)) (fuW fb (ixW nb bs 9 mm))) (s5S (o2 (paZ bv (pkW (paZ bv) 1 n nb bs 1))) (o2 (paZ bv (pkW (paZ bv) 2 n nb bs 2))) (o2 (paZ bv (pkW (paZ bv) 1 n nb bs 3))) (o2 (paZ bv (pkW (paZ bv) 2 n nb bs 4))) (o2 (paZ bv (pkW (paZ bv) 1 n nb bs 5))) (fuW fb (ixW nb bs 7 mm)) (fuW fb (ixW nb bs 9 mm))) ((s5S (o1 (paZ bv (pkW (paZ bv) 1 n nb bs 1))) (o1 (paZ bv (pkW (paZ bv) 2 n nb bs 2))) (o1 (paZ bv (pkW (paZ bv) 1 n nb bs 3))) (o1 (paZ bv (pkW (paZ bv) 2 n nb bs 4))) (o1 (paZ bv (pkW (paZ bv) 1 n nb bs 5))) (fuW fb (ixW nb bs 7 mm)) (fuW fb (ixW nb bs 9 mm))) / (1000 * ((fuW fb (ixW nb bs 7 mm)).pitch * (fuW fb (ixW nb bs 9 mm)).pitch))) ((s5S (o2 (paZ bv (pkW (paZ bv) 1 n nb bs 1))) (o2 (paZ bv (pkW (paZ bv) 2 n nb bs 2))) (o2 (paZ bv (pkW (paZ bv) 1 n nb bs 3))) (o2 (paZ bv (pkW (paZ bv) 2 n nb bs 4))) (o2 (paZ bv (pkW (paZ bv) 1 n nb bs 5))) (fuW fb (ixW nb bs 7 mm)) (fuW fb (ixW nb bs 9 mm))) / (1000 * ((fuW fb (ixW nb bs 7 mm)).pitch * (fuW fb (ixW nb bs 9 mm)).pitch))) ((((((paZ bv (pkW (paZ bv) 1 n nb bs 1))).t1 + ((paZ bv (pkW (paZ bv) 1 n nb bs 3))).t1) + ((paZ bv (pkW (paZ bv) 1 n nb bs 5))).t1) + ((fuW fb (ixW nb bs 7 mm))).h1) + ((fuW fb (ixW nb bs 9 mm))).h1) ((((((paZ bv (pkW (paZ bv) 1 n nb bs 1))).t2 + ((paZ bv (pkW (paZ bv) 1 n nb bs 3))).t2) + ((paZ bv (pkW (paZ bv) 1 n nb bs 5))).t2) + ((fuW fb (ixW nb bs 7 mm))).h2) + ((fuW fb (ixW nb bs 9 mm))).h2) (fun i => [o1 (paZ bv (pkW (paZ bv) 1 n nb bs 1)), o1 (paZ bv (pkW (paZ bv) 2 n nb bs 2)), o1 (paZ bv (pkW (paZ bv) 1 n nb bs 3)), o1 (paZ bv (pkW (paZ bv) 2 n nb bs 4)), o1 (paZ bv (pkW (paZ bv) 1 n nb bs 5))].getD i 0) (fun i => [o2 (paZ bv (pkW (paZ bv) 1 n nb bs 1)), o2 (paZ bv (pkW (paZ bv) 2 n nb bs 2)), o2 (paZ bv (pkW (paZ bv) 1 n nb bs 3)), o2 (paZ bv (pkW (paZ bv) 2 n nb bs 4)), o2 (paZ bv (pkW (paZ bv) 1 n nb bs 5))].getD i 0) (W) (hP) (hQ) (fun i _ => paZ_in hbv i) (fun i _ => fuW_in hfb i) (by omega) (by omega) (by omega) (by omega) (hX.ii) (hF.ii) ((hk.k1 1).1) (rfl) ((hk.k2 2).1) (rfl) ((hk.k1 3).1) (rfl) ((hk.k2 4).1) (rfl) ((hk.k1 5).1) (rfl) (ix_lt (by omega)) (rfl) (ix_lt (by omega)) (rfl) ((hk.k1 1).2) ((hk.k2 2).2) ((hk.k1 3).2) ((hk.k2 4).2) ((hk.k1 5).2) (rfl) (by omega) (by omega) (Int.mul_ediv_cancel_left _ (by omega)) (by omega) (by omega) (by omega) (Int.mul_ediv_cancel _ (by omega)) (by omega) (by omega) (by omega) (by omega) (rfl) (hsa) (rfl) (div_bd hsa (by omega)) (getD5 (p := fun x => 0 ≤ x ∧ x ≤ 1200000) a0 a1 a2 a3 a4) (rfl) (rfl) (rfl) (rfl) (rfl) (rfl) (rfl) (hsb) (rfl) (div_bd hsb (by omega)) (getD5 (p := fun x => 0 ≤ x ∧ x ≤ 1200000) b0 b1 b2 b3 b4) (rfl) (rfl) (rfl) (rfl) (rfl) (rfl)
open Go.RowKit
def docP : Nat → Pa := fun i => if i = 0 then ⟨1, 200, 250, 270, 60, 80, 400000, 300⟩ else ⟨2, 120, 180, 190, 70, 90, 300000, 200⟩
def docF : Nat → Fu := fun _ => ⟨8000, 12000, 3600, 3700⟩
theorem docP_row {w : World} {b1 : Nat} (h1 : w.heap[b1]? = some (.cells #[.int .i64 1, .int .i64 200, .int .i64 250, .int .i64 270, .int .i64 60, .int .i64 80, .int .i64 400000, .int .i64 300, .int .i64 2, .int .i64 120, .int .i64 180, .int .i64 190, .int .i64 70, .int .i64 90, .int .i64 300000, .int .i64 200] 103 (0, 0))) : PaR w b1 0 2 docP := by
  refine ⟨ltb h1, fun i hi => ?_⟩
  match i, hi with
  | 0, _ => exact ⟨Joins.cell_of_block h1 0, Joins.cell_of_block h1 1, Joins.cell_of_block h1 2, Joins.cell_of_block h1 3, Joins.cell_of_block h1 4, Joins.cell_of_block h1 5, Joins.cell_of_block h1 6, Joins.cell_of_block h1 7⟩
  | 1, _ => exact ⟨Joins.cell_of_block h1 8, Joins.cell_of_block h1 9, Joins.cell_of_block h1 10, Joins.cell_of_block h1 11, Joins.cell_of_block h1 12, Joins.cell_of_block h1 13, Joins.cell_of_block h1 14, Joins.cell_of_block h1 15⟩
theorem docF_row {w : World} {b2 : Nat} (h2 : w.heap[b2]? = some (.cells #[.int .i64 8000, .int .i64 12000, .int .i64 3600, .int .i64 3700] 105 (0, 0))) : FuR w b2 0 1 docF := by
  refine ⟨ltb h2, fun i hi => ?_⟩
  match i, hi with
  | 0, _ => exact ⟨Joins.cell_of_block h2 0, Joins.cell_of_block h2 1, Joins.cell_of_block h2 2, Joins.cell_of_block h2 3⟩
theorem docP_in : ∀ i, i < 2 → PaIn (docP i) := by
  intro i hi
  match i, hi with
  | 0, _ => exact ⟨.inl rfl, by decide, by decide, by decide, by decide, by decide⟩
  | 1, _ => exact ⟨.inr rfl, by decide, by decide, by decide, by decide, by decide⟩
theorem docF_in : ∀ i, i < 1 → FuIn (docF i) := by
  intro i hi
  match i, hi with
  | 0, _ => exact ⟨by decide, by decide, by decide⟩
theorem measure_doc (b1 b2 b3 b4 : Nat) (w : World) (h1 : w.heap[b1]? = some (.cells #[.int .i64 1, .int .i64 200, .int .i64 250, .int .i64 270, .int .i64 60, .int .i64 80, .int .i64 400000, .int .i64 300, .int .i64 2, .int .i64 120, .int .i64 180, .int .i64 190, .int .i64 70, .int .i64 90, .int .i64 300000, .int .i64 200] 103 (0, 0))) (h2 : w.heap[b2]? = some (.cells #[.int .i64 8000, .int .i64 12000, .int .i64 3600, .int .i64 3700] 105 (0, 0))) (h3 : w.heap[b3]? = some (.cells #[.int .i64 0, .int .i64 1, .int .i64 0] 3 (0, 0))) (h4 : w.heap[b4]? = some (.cells #[.int .i64 0] 3 (0, 0))) : Calls Try.prog 14 #[.agg #[.slice (some ⟨b1, 0, none⟩) 2 2, .slice (some ⟨b2, 0, none⟩) 1 1], .agg #[.slice (some ⟨b3, 0, none⟩) 3 3, .slice (some ⟨b4, 0, none⟩) 1 1]] w (fun e w' => e = .returned (.tuple #[.agg #[.int .i64 616, .int .i64 628], .agg #[.int .i64 4100, .int .i64 4240], .int .i64 0]) ∧ Below w.heap.size w w') :=
  Measure_1 docP docF b1 0 2 2 b2 0 1 1 b3 0 3 b4 0 1 0 1 0 0 (docP 0) (docP 1) (docP 0) (docF 0) 8000 1 4932800000 5025600000 616 628 4100 4240 (fun i => [212000, 128400, 212000].getD i 0) (fun i => [216000, 130800, 216000].getD i 0) w (docP_row h1) (docF_row h2) docP_in docF_in (by decide) (by decide) (by decide) (by decide) (ii_block (xs := [0, 1, 0]) h3 rfl rfl) (ii_block (xs := [0]) h4 rfl rfl) (by decide) rfl (by decide) rfl (by decide) rfl (by decide) rfl rfl rfl rfl rfl ⟨by decide, by decide⟩ ⟨by decide, by decide⟩ (by decide) ⟨by decide, by decide⟩ ⟨by decide, by decide⟩ ⟨by decide, by decide⟩ (by decide)
    (by decide) ⟨by decide, by decide⟩ (by decide) ⟨by decide, by decide⟩ (fun i hi => by match i, hi with | 0, _ => exact ⟨by decide, by decide⟩ | 1, _ => exact ⟨by decide, by decide⟩ | 2, _ => exact ⟨by decide, by decide⟩) rfl rfl rfl rfl (by decide) ⟨by decide, by decide⟩ (by decide) ⟨by decide, by decide⟩ (fun i hi => by match i, hi with | 0, _ => exact ⟨by decide, by decide⟩ | 1, _ => exact ⟨by decide, by decide⟩ | 2, _ => exact ⟨by decide, by decide⟩) rfl rfl rfl rfl
open Go.RowKit
def docB : Bl := ⟨35, [304, 204, 304, 204], 208, [101, 101], [101, 101], 6, false⟩
theorem dv_size : checkErr docB = 0 ∧ acrossOf docB = 1051 ∧ alongOf docB = 410 := ⟨by kernel_rfl, by kernel_rfl, by kernel_rfl⟩
open Go.RowKit
open Go.RowKit
structure Sh where
  x0 : Int
  x1 : Int
  x2 : Int
  x3 : Int
  xh : Int
  y0 : Int
  y1 : Int
  y2 : Int
  y3 : Int
  xo : Bool
  ca : Int
  cb : Int
  v0 : Int
  v1 : Int
  v2 : Int
  v3 : Int
  v4 : Int
open Go.RowKit
def inB (n lo hi : Int) : Bool := decide (lo ≤ n) && decide (n ≤ hi)
open Go.RowKit
open Go.RowKit
open Go.RowKit
def spanR (lo hi least most : Int) : Bool := inB lo least hi && decide (hi ≤ most)
def panR (b : Bl) (k : Nat) (c : Int) : Int := 1000 * b.panels.getD k 0 - c
def heightR (b : Bl) (c : Int) : Int := if b.isOpen = true then 1000 * b.height - c else 1000 * b.height - c - c
open Go.RowKit
open Go.RowKit
open Go.RowKit
open Go.RowKit
open Go.RowKit Go.Shelf
attribute [local go_sem] Oper.semAt_some
open Go.RowKit
open Go.RowKit Go.Shelf
attribute [local go_sem] Oper.semAt_some
open Go.RowKit
open Go.RowKit
open Go.RowKit
open Go.RowKit
open Go.RowKit
open Go.RowKit
open Go.RowKit
open Go.RowKit
open Go.RowKit
open Go.RowKit
theorem good_nums {b : Bl} (h : checkErr b = 0) : (b.panels.length = 4 ∧ b.top.length = 2 ∧ b.bottom.length = 2) ∧ (0 ≤ b.tab ∧ b.tab ≤ 100) ∧ (0 ≤ b.slot ∧ b.slot ≤ 20) ∧ (1 ≤ b.height ∧ b.height ≤ 3000) ∧
    ((1 ≤ b.panels.getD 0 0 ∧ b.panels.getD 0 0 ≤ 3000) ∧ (1 ≤ b.panels.getD 1 0 ∧ b.panels.getD 1 0 ≤ 3000) ∧ (1 ≤ b.panels.getD 2 0 ∧ b.panels.getD 2 0 ≤ 3000) ∧ (1 ≤ b.panels.getD 3 0 ∧ b.panels.getD 3 0 ≤ 3000)) ∧
    ((0 ≤ b.top.getD 0 0 ∧ b.top.getD 0 0 ≤ 3000) ∧ (0 ≤ b.top.getD 1 0 ∧ b.top.getD 1 0 ≤ 3000) ∧ (0 ≤ b.bottom.getD 0 0 ∧ b.bottom.getD 0 0 ≤ 3000) ∧ (0 ≤ b.bottom.getD 1 0 ∧ b.bottom.getD 1 0 ≤ 3000)) := by
  obtain ⟨hF, ht, hs, hp, hh, -⟩ := fine_of_check h
  obtain ⟨p0, p1, p2, p3, t0, t1, u0, u1, e1, e2, e3, r0, r1, r2, r3, s0, s1, q0, q1, rh⟩ := hF
  rw [e1] at hp
  have a0 := hp p0 (by simp); have a1 := hp p1 (by simp); have a2 := hp p2 (by simp); have a3 := hp p3 (by simp)
  rw [e1, e2, e3]
  simp only [List.length_cons, List.length_nil, List.getD_cons_zero, List.getD_cons_succ, true_and]
  refine ⟨ht, hs, hh, ⟨a0, a1, a2, a3⟩, s0, s1, q0, q1⟩
open Go.RowKit
theorem pp_get {W : World} {aa : Option Addr} {a o n c : Nat} {xs : List Sp} (h : Pp W aa n c xs) (ha : aa = some ⟨a, o, none⟩) {i : Nat} (hi : i < xs.length) :
    W.cell? ⟨a, o + i * 2, none⟩ = some (.int .i64 (xs.getD i (0, 0)).1) ∧ W.cell? ⟨a, o + i * 2 + 1, none⟩ = some (.int .i64 (xs.getD i (0, 0)).2) := by
  subst ha
  obtain ⟨b, off, e', -, hc⟩ := h.at (by omega)
  cases e'
  exact hc i hi
theorem isPp_of {W : World} {a : Option Addr} {n c : Nat} {l : List Sp} (h : Pp W a n c l) : IsPp l (.slice a n c) W := by
  obtain rfl := h.1
  exact ⟨a, c, rfl, h⟩
theorem Pp.lim {W : World} {a : Option Addr} {n c : Nat} {xs : List Sp} (h : Pp W a n c xs) : ∀ g o, a = some ⟨g, o, none⟩ → xs ≠ [] → g < W.heap.size := by
  intro g o e hne
  obtain ⟨b, off, e', hl, -⟩ := h.at (List.length_pos_iff.2 hne)
  rw [e] at e'
  cases e'
  exact hl
theorem Pp.at' {W : World} {a : Option Addr} {n c : Nat} {xs : List Sp} (h : Pp W a n c xs) (hne : 0 < xs.length) : ∃ b off, a = some ⟨b, off, none⟩ := by
  obtain ⟨b, off, e, -⟩ := h.at hne
  exact ⟨b, off, e⟩
open Go.RowKit
theorem spanR_eq (lo hi least most : Int) : spanR lo hi least most = isSpan (lo, hi) least most := by
  unfold spanR isSpan within inB
  rw [Bool.eq_iff_iff]
  simp
  omega
theorem isSpan_iff {lo hi : Int} : isSpan (lo, hi) 1 10000 = true ↔ 1 ≤ lo ∧ lo ≤ hi ∧ hi ≤ 10000 := by
  rw [← spanR_eq]; unfold spanR inB; simp [and_assoc]
open Go.RowKit
def nthP (L : List (Int × Int)) (i : Nat) : Int × Int := L.getD i (0, 0)
theorem check_ok {tab p0 p1 p2 p3 hh t0 t1 u0 u1 sl : Int} {op : Bool} (gt : 0 ≤ tab ∧ tab ≤ 100) (gs : 0 ≤ sl ∧ sl ≤ 20) (gh : 1 ≤ hh ∧ hh ≤ 3000) (g0 : 1 ≤ p0 ∧ p0 ≤ 3000) (g1 : 1 ≤ p1 ∧ p1 ≤ 3000) (g2 : 1 ≤ p2 ∧ p2 ≤ 3000) (g3 : 1 ≤ p3 ∧ p3 ≤ 3000)
    (t0' : 0 ≤ t0 ∧ t0 ≤ 3000) (t1' : 0 ≤ t1 ∧ t1 ≤ 3000) (u0' : 0 ≤ u0 ∧ u0 ≤ 3000) (u1' : 0 ≤ u1 ∧ u1 ≤ 3000) (ho : op = true → t0 = 0 ∧ t1 = 0) : checkErr ⟨tab, [p0, p1, p2, p3], hh, [t0, t1], [u0, u1], sl, op⟩ = 0 := by
  unfold checkErr
  rw [if_neg, if_neg, if_neg]
  · simp only [Bool.and_eq_true, Bool.not_eq_true', not_and, Bool.not_eq_false, within]
    intro h
    obtain ⟨rfl, rfl⟩ := ho h
    decide
  · simp [numsOk, within, areLong]; omega
  · simp [lensOk]
theorem wished_ok {b : Bl} {w : Wi} {lo hi : Int} (h1 : checkErr b = 0) (h2 : wishErr w = 0) (h3 : 1 ≤ lo) (h4 : lo ≤ hi) (h5 : hi ≤ 10000) : wishedErr b w [(lo, hi)] = 0 := by
  unfold wishedErr checkedErr
  rw [if_pos h1, if_pos h2]
  have : isSpan (lo, hi) 1 10000 = true := by
    unfold isSpan within
    simp only [List.any_cons, List.any_nil, Bool.or_false, Bool.and_eq_true, Bool.not_eq_true', Bool.or_eq_false_iff, decide_eq_false_iff_not, decide_eq_true_eq]
    omega
  simp [this]
open Go.RowKit
open Go.RowKit
open Go.RowKit
theorem pp_nth {W : World} {aa : Option Addr} {a o n c : Nat} {xs : List Sp} (h : Pp W aa n c xs) (ha : aa = some ⟨a, o, none⟩) {i : Nat} (hi : i < xs.length) :
    W.cell? ⟨a, o + i * 2, none⟩ = some (.int .i64 (nthP xs i).1) ∧ W.cell? ⟨a, o + i * 2 + 1, none⟩ = some (.int .i64 (nthP xs i).2) := pp_get h ha hi
def IsPpP (L : List Sp) (er : Int) (w : World) (e : Ending) (w' : World) : Prop := ∃ x, e = .returned (.tuple #[x, .int .i64 er]) ∧ IsPp L x w' ∧ Below w.heap.size w w'
theorem close_ok {u : Value} {b : Bl} (v : Wi) (lo hi : Int) (w : World) (hB : Blk w u b) (hck : checkErr b = 0) (hwi : wishErr v = 0) (h1 : 1 ≤ lo) (h2 : lo ≤ hi) (h3 : hi ≤ 10000) : Calls Try.prog 38 #[u, .agg #[.int .i64 v.length.1, .int .i64 v.length.2, .int .i64 v.width.1, .int .i64 v.width.2, .int .i64 v.height.1, .int .i64 v.height.2, .int .i64 v.outer.1, .int .i64 v.outer.2, .int .i64 v.inner.1, .int .i64 v.inner.2, .bool v.isOpen], .agg #[.int .i64 lo, .int .i64 hi]] w (IsPpP (closeL b v (lo, hi)) 0 w) := by
  have hE := wished_ok hck hwi h1 h2 h3
  refine (close_any u b v.length.1 v.length.2 v.width.1 v.width.2 v.height.1 v.height.2 v.outer.1 v.outer.2 v.inner.1 v.inner.2 v.isOpen lo hi w hB).mono fun e w' h => ?_
  obtain ⟨a, n, c, e1, h1, h2⟩ := h
  have hE' : wishedErr b ⟨(v.length.1, v.length.2), (v.width.1, v.width.2), (v.height.1, v.height.2), (v.outer.1, v.outer.2), (v.inner.1, v.inner.2), v.isOpen⟩ [(lo, hi)] = 0 := hE
  rw [hE'] at e1
  rw [if_pos hE'] at h1
  exact ⟨_, e1, isPp_of h1, h2⟩
end Go.Proofs.Ytolnpbpeifpbjaa
