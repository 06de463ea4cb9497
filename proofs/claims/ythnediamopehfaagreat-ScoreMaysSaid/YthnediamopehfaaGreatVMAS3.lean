/- Part of the proof: what the claim leans on. -/
import Derived.Test.YthnediamopehfaaGreatVMAL2
set_option maxHeartbeats 2000000
set_option maxRecDepth 100000
set_option linter.unusedSimpArgs false
set_option linter.unusedVariables false
namespace Go.Proofs.YthnediamopehfaaGreat
open Go.RowKit
def gapS (w : Wi) (k : Nat) (p flap off c : Int) : Bool := (aroundL flap off 0).any fun f => fitsR ((1000 * p - c - 1000 * f) - 1000 * f) (if k = 0 then w.outer.1 else w.inner.1) (if k = 0 then w.outer.2 else w.inner.2)
def panS (w : Wi) (i : Nat) (p c : Int) : Bool := fitsR (1000 * p - c) (if i % 2 = 0 then w.length.1 else w.width.1) (if i % 2 = 0 then w.length.2 else w.width.2)
def fineR (b : Bl) (w : Wi) (off c : Int) (i : Nat) (p : Int) : Bool :=
  if i < 2 then (panS w i p c && gapS w (1 - i) p (b.bottom.getD (1 - i) 0) off c) && (b.isOpen || gapS w (1 - i) p (b.top.getD (1 - i) 0) off c) else panS w i p c
def highS (op : Bool) (w : Wi) (h c : Int) : Bool := fitsR (if op = true then 1000 * h - c else 1000 * h - c - c) w.height.1 w.height.2
def mayR (b : Bl) (w : Wi) (off c : Int) : Bool :=
  if (!(holdsR b w 5 c) && (b.isOpen || w.isOpen)) = true then false else
  if (!(decide (c ≤ 1000 * min 20 (b.slot + off)))) = true then false else
  (aroundL b.height off 1).any (fun h => highS b.isOpen w h c) && (List.range 4).all fun i => (aroundL (b.panels.getD i 0) off 1).any (fineR b w off c i)
theorem around_some (n off least : Int) (p : Int → Bool) : someB least n off p = (aroundL n off least).any p := rfl
theorem isIn_fits (p c : Int) (s : Sp) : isInOf p 1 c s = fitsR (1000 * p - c) s.1 s.2 := by
  unfold isInOf fitsR inB; rw [Int.one_mul]
theorem isIn_gap (p x c : Int) (s : Sp) : isInOf (p - 2 * x) 1 c s = fitsR ((1000 * p - c - 1000 * x) - 1000 * x) s.1 s.2 := by
  unfold isInOf fitsR inB
  rw [show 1000 * (p - 2 * x) - 1 * c = (1000 * p - c - 1000 * x) - 1000 * x from by omega]
theorem isIn_high (op : Bool) (w : Wi) (h c : Int) : isInOf h (foldsOf op) c w.height = highS op w h c := by
  unfold isInOf highS fitsR inB foldsOf
  cases op
  · simp only [Bool.false_eq_true, if_false]
    rw [show 1000 * h - 2 * c = 1000 * h - c - c from by omega]
  · simp only [if_true]
    rw [Int.one_mul]
theorem gapS_some (w : Wi) (k : Nat) (p flap off c : Int) (s : Sp) (h1 : (if k = 0 then w.outer.1 else w.inner.1) = s.1) (h2 : (if k = 0 then w.outer.2 else w.inner.2) = s.2) : (someB 0 flap off fun x => isInOf (p - 2 * x) 1 c s) = gapS w k p flap off c := by
  rw [around_some]; unfold gapS
  congr 1
  funext x
  rw [isIn_gap, h1, h2]
theorem fine_ok (b : Bl) (w : Wi) (off c : Int) {i : Nat} (hi : i < 4) (p : Int) :
    okP w c off p (if b.isOpen then [(b.bottom.getD 0 0, b.bottom.getD 1 0)] else [(b.bottom.getD 0 0, b.bottom.getD 1 0), (b.top.getD 0 0, b.top.getD 1 0)]) i = fineR b w off c i p := by
  have g0 : ∀ f, (someB 0 f off fun x => isInOf (p - 2 * x) 1 c w.inner) = gapS w 1 p f off c := fun f => gapS_some w 1 p f off c w.inner rfl rfl
  have g1 : ∀ f, (someB 0 f off fun x => isInOf (p - 2 * x) 1 c w.outer) = gapS w 0 p f off c := fun f => gapS_some w 0 p f off c w.outer rfl rfl
  unfold okP fineR badF
  rw [isIn_fits]
  match i, hi with
  | 0, _ => cases b.isOpen <;> simp [g0, panS, targetOf, Bool.and_assoc]
  | 1, _ => cases b.isOpen <;> simp [g1, panS, targetOf, Bool.and_assoc]
  | 2, _ => cases b.isOpen <;> simp [panS, targetOf]
  | 3, _ => cases b.isOpen <;> simp [panS, targetOf]
theorem mayR_eq (b : Bl) (w : Wi) (off c : Int) : mayR b w off c = closesOf b w off c := by
  have e5 : holdsR b w 5 c = (if (b.isOpen || w.isOpen) = true then (b.isOpen && w.isOpen) else fitsR (gapR b true true c) w.outer.1 w.outer.2) := rfl
  have hp : ∀ i, i < 4 → (someB 1 (b.panels.getD i 0) off fun p => okP w c off p (if b.isOpen then [(b.bottom.getD 0 0, b.bottom.getD 1 0)] else [(b.bottom.getD 0 0, b.bottom.getD 1 0), (b.top.getD 0 0, b.top.getD 1 0)]) i) = (aroundL (b.panels.getD i 0) off 1).any (fineR b w off c i) := fun i hi => by
    rw [around_some]
    congr 1
    funext p
    exact fine_ok b w off c hi p
  have hh : (someB 1 b.height off fun n => isInOf n (foldsOf b.isOpen) c w.height) = (aroundL b.height off 1).any (fun h => highS b.isOpen w h c) := by
    rw [around_some]
    congr 1
    funext h
    exact isIn_high _ w h c
  unfold mayR closesOf
  rw [e5]
  simp only [hp 0 (by decide), hp 1 (by decide), hp 2 (by decide), hp 3 (by decide), hh]
  have hr : ∀ f : Nat → Bool, (List.range 4).all f = (f 0 && (f 1 && (f 2 && f 3))) := fun f => by simp [List.range, List.range.loop]
  rw [hr]
  generalize (aroundL b.height off 1).any (fun h => highS b.isOpen w h c) = H
  generalize (aroundL (b.panels.getD 0 0) off 1).any (fineR b w off c 0) = P0
  generalize (aroundL (b.panels.getD 1 0) off 1).any (fineR b w off c 1) = P1
  generalize (aroundL (b.panels.getD 2 0) off 1).any (fineR b w off c 2) = P2
  generalize (aroundL (b.panels.getD 3 0) off 1).any (fineR b w off c 3) = P3
  generalize decide (c ≤ 1000 * min 20 (b.slot + off)) = S
  generalize fitsR (gapR b true true c) w.outer.1 w.outer.2 = G
  cases b.isOpen <;> cases w.isOpen <;> cases S <;> cases H <;> simp
theorem mayFrom_at {f : Int → Bool} : ∀ (n : Nat) (lo c : Int), lo ≤ c → c < lo + (n : Int) → (∀ d, lo ≤ d → d < c → f d = false) → f c = true → mayFrom f n lo = (c, 0)
  | 0, lo, c, h1, h2, _, _ => by omega
  | n + 1, lo, c, h1, h2, h3, h4 => by
    unfold mayFrom
    by_cases h : lo = c
    · rw [h, if_pos h4]
    · rw [if_neg (by rw [h3 lo (Int.le_refl _) (by omega)]; exact Bool.false_ne_true)]
      exact mayFrom_at n (lo + 1) c (by omega) (by omega) (fun d h5 h6 => h3 d (by omega) h6) h4
theorem mayFrom_no {f : Int → Bool} : ∀ (n : Nat) (lo : Int), (∀ d, lo ≤ d → d < lo + (n : Int) → f d = false) → mayFrom f n lo = (0, 9)
  | 0, _, _ => rfl
  | n + 1, lo, h => by
    unfold mayFrom
    rw [if_neg (by rw [h lo (Int.le_refl _) (by omega)]; exact Bool.false_ne_true)]
    exact mayFrom_no n (lo + 1) fun d h1 h2 => h d (by omega) (by omega)
theorem any_range {f : Int → Bool} {F G : Int} {j : Nat} (hj : j < (rangeL F G).length) (h : f (F + (j : Int)) = true) : (rangeL F G).any f = true := by
  rw [List.any_eq_true]
  have := rangeL_get hj
  rw [List.getD_eq_getElem?_getD, List.getElem?_eq_getElem hj, Option.getD_some] at this
  exact ⟨_, List.getElem_mem hj, by rw [this]; exact h⟩
theorem none_range {f : Int → Bool} {F G : Int} (h : ∀ j : Nat, j < (rangeL F G).length → f (F + (j : Int)) = false) : (rangeL F G).any f = false := by
  rw [List.any_eq_false]
  intro x hx
  obtain ⟨j, hj, rfl⟩ := List.getElem_of_mem hx
  have := rangeL_get hj
  rw [List.getD_eq_getElem?_getD, List.getElem?_eq_getElem hj, Option.getD_some] at this
  rw [this, h j hj]; exact Bool.false_ne_true
open Go.RowKit
def wishRB (w : Wi) : Bool := ((((!(spanR w.length.1 w.length.2 (0) (3000))) || (!(spanR w.width.1 w.width.2 (0) (3000)))) || (!(spanR w.height.1 w.height.2 (0) (3000)))) || (!(spanR w.outer.1 w.outer.2 (-3000) (3000)))) || (!(spanR w.inner.1 w.inner.2 (-3000) (3000)))
def wishR (w : Wi) : Int := if wishRB w = true then 2 else 0
theorem wishR_any (l1 h1' l2 h2' l3 h3' l4 h4' l5 h5' : Int) (wo : Bool) (w : World) :
  Calls Tryz.prog 24 #[.agg #[.int .i64 l1, .int .i64 (h1'), .int .i64 l2, .int .i64 (h2'), .int .i64 l3, .int .i64 (h3'), .int .i64 l4, .int .i64 (h4'), .int .i64 l5, .int .i64 (h5'), .bool wo]] w (fun e w' => e = .returned (.int .i64 (wishR ⟨(l1, h1'), (l2, h2'), (l3, h3'), (l4, h4'), (l5, h5'), wo⟩)) ∧ Below w.heap.size w w') := by
 refine calls_fr Tryz.func24 Tryz.ntmps24 rfl rfl fun g hg => ?_
 have k0 : g 0 = .agg #[.int .i64 l1, .int .i64 (h1'), .int .i64 l2, .int .i64 (h2'), .int .i64 l3, .int .i64 (h3'), .int .i64 l4, .int .i64 (h4'), .int .i64 l5, .int .i64 (h5'), .bool wo] := hg 0
 clear hg
 have fB0 : Below w.heap.size w w := Below.refl _ _
 refine rw_ 2 [(1, 0), (2, 1)] [[], []] (rel [bx 0 #[.int .i64 l1, .int .i64 (h1'), .int .i64 l2, .int .i64 (h2'), .int .i64 l3, .int .i64 (h3'), .int .i64 l4, .int .i64 (h4'), .int .i64 l5, .int .i64 (h5'), .bool wo] 43, iI 0])
  ⟨fun f s W h i j k l a => opb rfl rfl (by simp [go_sem, a.e 0 k0]),
  fun f s W h i j k l a => opz, trivial⟩ ?_
 intro f1 s1 W1 hB1 g1 hg1 z1
 obtain ⟨r1_0, br1_0⟩ := hB1.is 0
 have lr1_0 := hB1.lr 0 br1_0
 have k1_1 := kt hg1 1 r1_0
 refine wp_seq_k fun K2 hK2 => ?_
 refine rw_ 28 [(3, 0), (4, 1), (5, 2), (6, 3), (7, 4), (8, 5), (9, 6), (10, 7), (11, 8), (12, 9), (13, 10), (14, 11), (15, 12), (16, 13), (17, 14), (18, 15), (19, 16), (20, 17), (21, 18), (22, 19), (23, 20), (24, 21), (25, 22), (26, 23), (27, 24), (28, 25), (29, 26), (30, 27)] [[], [0], [1], [2], [3], [4], [4, 5], [4, 6], [4, 7], [4, 8], [9], [10], [10, 11], [10, 12], [10, 13], [10, 14], [15], [16], [16, 17], [16, 18], [16, 19], [16, 20], [21], [22], [22, 23], [22, 24], [22, 25], [22, 26]] (rel [is (.pointer (some ⟨(s1 0), 0, none⟩)), is (.agg #[.int .i64 l1, .int .i64 (h1')]), iB (spanR l1 h1' (0) (3000)), iB (!(spanR l1 h1' (0) (3000))), iB (!(spanR l1 h1' (0) (3000))), gd (!(spanR l1 h1' (0) (3000))) false (is (.pointer (some ⟨(s1 0), 2, none⟩))), gd (!(spanR l1 h1' (0) (3000))) false (is (.agg #[.int .i64 l2, .int .i64 (h2')])), gd (!(spanR l1 h1' (0) (3000))) false (iB (spanR l2 h2' (0) (3000))), gd (!(spanR l1 h1' (0) (3000))) false (iB (!(spanR l2 h2' (0) (3000)))), iB ((!(spanR l1 h1' (0) (3000))) || (!(spanR l2 h2' (0) (3000)))), iB ((!(spanR l1 h1' (0) (3000))) || (!(spanR l2 h2' (0) (3000)))), gd ((!(spanR l1 h1' (0) (3000))) || (!(spanR l2 h2' (0) (3000)))) false (is (.pointer (some ⟨(s1 0), 4, none⟩))), gd ((!(spanR l1 h1' (0) (3000))) || (!(spanR l2 h2' (0) (3000)))) false (is (.agg #[.int .i64 l3, .int .i64 (h3')])), gd ((!(spanR l1 h1' (0) (3000))) || (!(spanR l2 h2' (0) (3000)))) false (iB (spanR l3 h3' (0) (3000))), gd ((!(spanR l1 h1' (0) (3000))) || (!(spanR l2 h2' (0) (3000)))) false (iB (!(spanR l3 h3' (0) (3000)))), iB (((!(spanR l1 h1' (0) (3000))) || (!(spanR l2 h2' (0) (3000)))) || (!(spanR l3 h3' (0) (3000)))), iB (((!(spanR l1 h1' (0) (3000))) || (!(spanR l2 h2' (0) (3000)))) || (!(spanR l3 h3' (0) (3000)))), gd (((!(spanR l1 h1' (0) (3000))) || (!(spanR l2 h2' (0) (3000)))) || (!(spanR l3 h3' (0) (3000)))) false (is (.pointer (some ⟨(s1 0), 6, none⟩))), gd (((!(spanR l1 h1' (0) (3000))) || (!(spanR l2 h2' (0) (3000)))) || (!(spanR l3 h3' (0) (3000)))) false (is (.agg #[.int .i64 l4, .int .i64 (h4')])), gd (((!(spanR l1 h1' (0) (3000))) || (!(spanR l2 h2' (0) (3000)))) || (!(spanR l3 h3' (0) (3000)))) false (iB (spanR l4 h4' (-3000) (3000))), gd (((!(spanR l1 h1' (0) (3000))) || (!(spanR l2 h2' (0) (3000)))) || (!(spanR l3 h3' (0) (3000)))) false (iB (!(spanR l4 h4' (-3000) (3000)))), iB ((((!(spanR l1 h1' (0) (3000))) || (!(spanR l2 h2' (0) (3000)))) || (!(spanR l3 h3' (0) (3000)))) || (!(spanR l4 h4' (-3000) (3000)))), iB ((((!(spanR l1 h1' (0) (3000))) || (!(spanR l2 h2' (0) (3000)))) || (!(spanR l3 h3' (0) (3000)))) || (!(spanR l4 h4' (-3000) (3000)))), gd ((((!(spanR l1 h1' (0) (3000))) || (!(spanR l2 h2' (0) (3000)))) || (!(spanR l3 h3' (0) (3000)))) || (!(spanR l4 h4' (-3000) (3000)))) false (is (.pointer (some ⟨(s1 0), 8, none⟩))), gd ((((!(spanR l1 h1' (0) (3000))) || (!(spanR l2 h2' (0) (3000)))) || (!(spanR l3 h3' (0) (3000)))) || (!(spanR l4 h4' (-3000) (3000)))) false (is (.agg #[.int .i64 l5, .int .i64 (h5')])), gd ((((!(spanR l1 h1' (0) (3000))) || (!(spanR l2 h2' (0) (3000)))) || (!(spanR l3 h3' (0) (3000)))) || (!(spanR l4 h4' (-3000) (3000)))) false (iB (spanR l5 h5' (-3000) (3000))), gd ((((!(spanR l1 h1' (0) (3000))) || (!(spanR l2 h2' (0) (3000)))) || (!(spanR l3 h3' (0) (3000)))) || (!(spanR l4 h4' (-3000) (3000)))) false (iB (!(spanR l5 h5' (-3000) (3000)))), iB (((((!(spanR l1 h1' (0) (3000))) || (!(spanR l2 h2' (0) (3000)))) || (!(spanR l3 h3' (0) (3000)))) || (!(spanR l4 h4' (-3000) (3000)))) || (!(spanR l5 h5' (-3000) (3000))))])
  ⟨fun f s W h i j k l a => opv rfl rfl (by simp [go_sem, a.e 1 k1_1]) rfl,
  fun f s W h i j k l a => opv rfl rfl (by simp [go_sem, a.e 3 (i 0 rfl), cb br1_0 h 0, cb br1_0 h 1]) rfl,
  fun f s W h i j k l a => opc rfl rfl (by simp [go_sem, a.e 4 (i 1 rfl)]) (spanR_any l1 h1' (0) (3000) W),
  fun f s W h i j k l a => opv rfl rfl (by simp [go_sem, a.e 5 (i 2 rfl)]) rfl,
  fun f s W h i j k l a => opm (a.v 6 (i 3 rfl)),
  fun f s W h i j k l a => gdo rfl rfl (a.says (d := 7) rfl rfl (i 4 rfl)) fun hgd0 => gv (by simp [go_sem, a.e 1 k1_1]) rfl,
  fun f s W h i j k l a => gdo rfl rfl (a.says (d := 7) rfl rfl (i 4 rfl)) fun hgd0 => gv (by simp [go_sem, a.e 8 ((i 5 rfl).1 hgd0), cb br1_0 h 2, cb br1_0 h 3]) rfl,
  fun f s W h i j k l a => gdo rfl rfl (a.says (d := 7) rfl rfl (i 4 rfl)) fun hgd0 => gc (by simp [go_sem, a.e 9 ((i 6 rfl).1 hgd0)]) (spanR_any l2 h2' (0) (3000) W),
  fun f s W h i j k l a => gdo rfl rfl (a.says (d := 7) rfl rfl (i 4 rfl)) fun hgd0 => gv (by simp [go_sem, a.e 10 ((i 7 rfl).1 hgd0)]) rfl,
  fun f s W h i j k l a => opk (c := !(spanR l1 h1' (0) (3000))) rfl rfl (fun hpk => by simp [go_sem, hpk, a.e 7 (i 4 rfl), a.e 11 ((i 8 rfl).1 hpk)]) (fun hpk => by simp [go_sem, hpk, a.e 7 (i 4 rfl)]),
  fun f s W h i j k l a => opm (a.v 12 (i 9 rfl)),
  fun f s W h i j k l a => gdo rfl rfl (a.says (d := 13) rfl rfl (i 10 rfl)) fun hgd0 => gv (by simp [go_sem, a.e 1 k1_1]) rfl,
  fun f s W h i j k l a => gdo rfl rfl (a.says (d := 13) rfl rfl (i 10 rfl)) fun hgd0 => gv (by simp [go_sem, a.e 14 ((i 11 rfl).1 hgd0), cb br1_0 h 4, cb br1_0 h 5]) rfl,
  fun f s W h i j k l a => gdo rfl rfl (a.says (d := 13) rfl rfl (i 10 rfl)) fun hgd0 => gc (by simp [go_sem, a.e 15 ((i 12 rfl).1 hgd0)]) (spanR_any l3 h3' (0) (3000) W),
  fun f s W h i j k l a => gdo rfl rfl (a.says (d := 13) rfl rfl (i 10 rfl)) fun hgd0 => gv (by simp [go_sem, a.e 16 ((i 13 rfl).1 hgd0)]) rfl,
  fun f s W h i j k l a => opk (c := (!(spanR l1 h1' (0) (3000))) || (!(spanR l2 h2' (0) (3000)))) rfl rfl (fun hpk => by simp [go_sem, hpk, a.e 13 (i 10 rfl), a.e 17 ((i 14 rfl).1 hpk)]) (fun hpk => by simp [go_sem, hpk, a.e 13 (i 10 rfl)]),
  fun f s W h i j k l a => opm (a.v 18 (i 15 rfl)),
  fun f s W h i j k l a => gdo rfl rfl (a.says (d := 19) rfl rfl (i 16 rfl)) fun hgd0 => gv (by simp [go_sem, a.e 1 k1_1]) rfl,
  fun f s W h i j k l a => gdo rfl rfl (a.says (d := 19) rfl rfl (i 16 rfl)) fun hgd0 => gv (by simp [go_sem, a.e 20 ((i 17 rfl).1 hgd0), cb br1_0 h 6, cb br1_0 h 7]) rfl,
  fun f s W h i j k l a => gdo rfl rfl (a.says (d := 19) rfl rfl (i 16 rfl)) fun hgd0 => gc (by simp [go_sem, a.e 21 ((i 18 rfl).1 hgd0)]) (spanR_any l4 h4' (-3000) (3000) W),
  fun f s W h i j k l a => gdo rfl rfl (a.says (d := 19) rfl rfl (i 16 rfl)) fun hgd0 => gv (by simp [go_sem, a.e 22 ((i 19 rfl).1 hgd0)]) rfl,
  fun f s W h i j k l a => opk (c := ((!(spanR l1 h1' (0) (3000))) || (!(spanR l2 h2' (0) (3000)))) || (!(spanR l3 h3' (0) (3000)))) rfl rfl (fun hpk => by simp [go_sem, hpk, a.e 19 (i 16 rfl), a.e 23 ((i 20 rfl).1 hpk)]) (fun hpk => by simp [go_sem, hpk, a.e 19 (i 16 rfl)]),
  fun f s W h i j k l a => opm (a.v 24 (i 21 rfl)),
  fun f s W h i j k l a => gdo rfl rfl (a.says (d := 25) rfl rfl (i 22 rfl)) fun hgd0 => gv (by simp [go_sem, a.e 1 k1_1]) rfl,
  fun f s W h i j k l a => gdo rfl rfl (a.says (d := 25) rfl rfl (i 22 rfl)) fun hgd0 => gv (by simp [go_sem, a.e 26 ((i 23 rfl).1 hgd0), cb br1_0 h 8, cb br1_0 h 9]) rfl,
  fun f s W h i j k l a => gdo rfl rfl (a.says (d := 25) rfl rfl (i 22 rfl)) fun hgd0 => gc (by simp [go_sem, a.e 27 ((i 24 rfl).1 hgd0)]) (spanR_any l5 h5' (-3000) (3000) W),
  fun f s W h i j k l a => gdo rfl rfl (a.says (d := 25) rfl rfl (i 22 rfl)) fun hgd0 => gv (by simp [go_sem, a.e 28 ((i 25 rfl).1 hgd0)]) rfl,
  fun f s W h i j k l a => opk (c := (((!(spanR l1 h1' (0) (3000))) || (!(spanR l2 h2' (0) (3000)))) || (!(spanR l3 h3' (0) (3000)))) || (!(spanR l4 h4' (-3000) (3000)))) rfl rfl (fun hpk => by simp [go_sem, hpk, a.e 25 (i 22 rfl), a.e 29 ((i 26 rfl).1 hpk)]) (fun hpk => by simp [go_sem, hpk, a.e 25 (i 22 rfl)]), trivial⟩ ?_
 intro f2 s2 W2 hB2 g2 hg2 z2
 have fB2 := hB2.f (hB1.f fB0)
 have k2_30 := kt hg2 30 (hB2.is 27)
 refine wp_cond_split (t := ((((!(spanR l1 h1' (0) (3000))) || (!(spanR l2 h2' (0) (3000)))) || (!(spanR l3 h3' (0) (3000)))) || (!(spanR l4 h4' (-3000) (3000)))) || (!(spanR l5 h5' (-3000) (3000)))) ((fr_eval rfl).trans k2_30) (fun hc4 => ?_) (fun hc4 => ?_)
 ·
  have hc4' := hc4; try simp only [ba] at hc4'
  refine rw_ 1 [(2, 0)] [[]] (rel [iI 2])
   ⟨fun f s W h i j k l a => opz, trivial⟩ ?_
  intro f3 s3 W3 hB3 g3 hg3 z3
  have fB3 := hB3.f fB2
  have k3_2 := kt hg3 2 (hB3.is 0)
  refine wp_ret ?_
  refine then_ret ?_
  refine leave_one (N := 31) (.inr rfl) Tryz.results24 rfl k3_2 ?_
  exact ⟨by rw [wishR, show wishRB ⟨(l1, h1'), (l2, h2'), (l3, h3'), (l4, h4'), (l5, h5'), wo⟩ = _ from hc4]; rfl, fB3⟩
 ·
  have hc4' := hc4; try simp only [ba] at hc4'
  refine wp_skip ?_
  refine hK2 _ _ ?_
  refine rw_ 1 [(2, 0)] [[]] (rel [iI 0])
   ⟨fun f s W h i j k l a => opz, trivial⟩ ?_
  intro f4 s4 W4 hB4 g4 hg4 z4
  have fB4 := hB4.f fB2
  have k4_2 := kt hg4 2 (hB4.is 0)
  refine wp_ret ?_
  refine leave_one (N := 31) (.inr rfl) Tryz.results24 rfl k4_2 ?_
  exact ⟨by rw [wishR, show wishRB ⟨(l1, h1'), (l2, h2'), (l3, h3'), (l4, h4'), (l5, h5'), wo⟩ = _ from hc4]; rfl, fB4⟩
def askedR (b : Bl) (w : Wi) (s : Sp) : Int := if (refCheck b != 0) = true then refCheck b else if (wishR w != 0) = true then wishR w else if (!(spanR s.1 s.2 1 10000)) = true then 3 else 0
theorem askedR_any (a1 a2 a3 : Option Addr) (c1 c2 c3 : Nat) (b : Bl) (l1 h1' l2 h2' l3 h3' l4 h4' l5 h5' : Int) (wo : Bool) (lo hi : Int) (w : World) (h1 : Ii w a1 b.panels.length c1 b.panels) (h2 : Ii w a2 b.top.length c2 b.top) (h3 : Ii w a3 b.bottom.length c3 b.bottom) :
  Calls Tryz.prog 25 #[.agg #[.int .i64 b.tab, .slice a1 (b.panels.length) c1, .int .i64 b.height, .slice a2 (b.top.length) c2, .slice a3 (b.bottom.length) c3, .int .i64 b.slot, .bool b.isOpen], .agg #[.int .i64 l1, .int .i64 (h1'), .int .i64 l2, .int .i64 (h2'), .int .i64 l3, .int .i64 (h3'), .int .i64 l4, .int .i64 (h4'), .int .i64 l5, .int .i64 (h5'), .bool wo], .agg #[.int .i64 lo, .int .i64 hi]] w (fun e w' => e = .returned (.int .i64 (askedR b ⟨(l1, h1'), (l2, h2'), (l3, h3'), (l4, h4'), (l5, h5'), wo⟩ (lo, hi))) ∧ Below w.heap.size w w') := by
 refine calls_fr Tryz.func25 Tryz.ntmps25 rfl rfl fun g hg => ?_
 have k0 : g 0 = .agg #[.int .i64 b.tab, .slice a1 (b.panels.length) c1, .int .i64 b.height, .slice a2 (b.top.length) c2, .slice a3 (b.bottom.length) c3, .int .i64 b.slot, .bool b.isOpen] := hg 0
 have k1 : g 1 = .agg #[.int .i64 l1, .int .i64 (h1'), .int .i64 l2, .int .i64 (h2'), .int .i64 l3, .int .i64 (h3'), .int .i64 l4, .int .i64 (h4'), .int .i64 l5, .int .i64 (h5'), .bool wo] := hg 1
 have k2 : g 2 = .agg #[.int .i64 lo, .int .i64 hi] := hg 2
 clear hg
 have fB0 : Below w.heap.size w w := Below.refl _ _
 refine rw_ 4 [(3, 0), (4, 1), (5, 2), (6, 3)] [[], [], [], []] (rel [bx 0 #[.int .i64 b.tab, .slice a1 (b.panels.length) c1, .int .i64 b.height, .slice a2 (b.top.length) c2, .slice a3 (b.bottom.length) c3, .int .i64 b.slot, .bool b.isOpen] 24, bx 1 #[.int .i64 l1, .int .i64 (h1'), .int .i64 l2, .int .i64 (h2'), .int .i64 l3, .int .i64 (h3'), .int .i64 l4, .int .i64 (h4'), .int .i64 l5, .int .i64 (h5'), .bool wo] 43, bx 2 #[.int .i64 lo, .int .i64 hi] 26, iI 0])
  ⟨fun f s W c d h i j a => opb rfl rfl (by simp [go_sem, a.e 0 k0]),
  fun f s W c d h i j a => opb rfl rfl (by simp [go_sem, a.e 1 k1]),
  fun f s W c d h i j a => opb rfl rfl (by simp [go_sem, a.e 2 k2]),
  fun f s W c d h i j a => opz, trivial⟩ ?_
 intro f1 s1 W1 hB1 g1 hg1 z1
 have fB1 := hB1.f fB0
 obtain ⟨r1_0, br1_0⟩ := hB1.is 0
 have lr1_0 := hB1.lr 0 br1_0
 obtain ⟨r1_1, br1_1⟩ := hB1.is 1
 have lr1_1 := hB1.lr 1 br1_1
 obtain ⟨r1_2, br1_2⟩ := hB1.is 2
 have lr1_2 := hB1.lr 2 br1_2
 have ne1_0_1 := hB1.nb 0 1
 have ne1_0_2 := hB1.nb 0 2
 have ne1_1_2 := hB1.nb 1 2
 have k1_3 := kt hg1 3 r1_0
 refine wp_seq_k fun K2 hK2 => ?_
 refine rw_ 3 [(9, 0), (10, 1), (7, 2)] [[], [0], [1]] (rel [is (.agg #[.int .i64 b.tab, .slice a1 (b.panels.length) c1, .int .i64 b.height, .slice a2 (b.top.length) c2, .slice a3 (b.bottom.length) c3, .int .i64 b.slot, .bool b.isOpen]), iI ((refCheck b)), iI ((refCheck b))])
  ⟨fun f s W c d h i j a => opv rfl rfl (by simp [go_sem, a.e 3 k1_3, cb br1_0 c 0, cb br1_0 c 1, cb br1_0 c 2, cb br1_0 c 3, cb br1_0 c 4, cb br1_0 c 5, cb br1_0 c 6]) rfl,
  fun f s W c d h i j a => by have k := bwt fB1 c; exact opc rfl rfl (by simp [go_sem, a.e 9 (d 0 rfl)]) (refCheck_any a1 a2 a3 c1 c2 c3 b W (h1.below k (Nat.le_refl _)) (h2.below k (Nat.le_refl _)) (h3.below k (Nat.le_refl _))),
  fun f s W c d h i j a => opm (a.v 10 (d 1 rfl)), trivial⟩ ?_
 intro f2 s2 W2 hB2 g2 hg2 z2
 have k2_7 := kt hg2 7 (hB2.is 2)
 refine rw_ 2 [(11, 0), (12, 1)] [[], [0]] (rel [iI ((refCheck b)), iB ((refCheck b) != 0)])
  ⟨fun f s W c d h i j a => opm (a.v 7 k2_7),
  fun f s W c d h i j a => opv rfl rfl (by simp [go_sem, a.e 11 (d 0 rfl)]) rfl, trivial⟩ ?_
 intro f3 s3 W3 hB3 g3 hg3 z3
 have fB3 := hB3.f (hB2.f fB1)
 have b3_1 := hB3.b (hB2.b br1_1)
 have k3_4 := kt hg3 4 (kt hg2 4 (kt hg1 4 r1_1))
 have k3_7 := kt hg3 7 k2_7
 have k3_12 := kt hg3 12 (hB3.is 1)
 refine wp_cond_split (t := (refCheck b) != 0) ((fr_eval rfl).trans k3_12) (fun hc5 => ?_) (fun hc5 => ?_)
 ·
  have hc5' := hc5; try simp only [ba] at hc5'
  refine rw_ 2 [(13, 0), (6, 1)] [[], [0]] (rel [iI ((refCheck b)), iI ((refCheck b))])
   ⟨fun f s W c d h i j a => opm (a.v 7 k3_7),
  fun f s W c d h i j a => opm (a.v 13 (d 0 rfl)), trivial⟩ ?_
  intro f4 s4 W4 hB4 g4 hg4 z4
  have fB4 := hB4.f fB3
  have k4_6 := kt hg4 6 (hB4.is 1)
  refine wp_ret ?_
  refine then_ret ?_
  refine leave_one (N := 22) (.inr rfl) Tryz.results25 rfl k4_6 ?_
  exact ⟨by unfold askedR; rw [if_pos hc5], fB4⟩
 ·
  have hc5' := hc5; try simp only [ba] at hc5'
  refine wp_skip ?_
  refine hK2 _ _ ?_
  refine wp_seq_k fun K7 hK7 => ?_
  refine rw_ 3 [(14, 0), (15, 1), (8, 2)] [[], [0], [1]] (rel [is (.agg #[.int .i64 l1, .int .i64 (h1'), .int .i64 l2, .int .i64 (h2'), .int .i64 l3, .int .i64 (h3'), .int .i64 l4, .int .i64 (h4'), .int .i64 l5, .int .i64 (h5'), .bool wo]), iI ((wishR ⟨(l1, h1'), (l2, h2'), (l3, h3'), (l4, h4'), (l5, h5'), wo⟩)), iI ((wishR ⟨(l1, h1'), (l2, h2'), (l3, h3'), (l4, h4'), (l5, h5'), wo⟩))])
   ⟨fun f s W c d h i j a => opv rfl rfl (by simp [go_sem, a.e 4 k3_4, cb b3_1 c 0, cb b3_1 c 1, cb b3_1 c 2, cb b3_1 c 3, cb b3_1 c 4, cb b3_1 c 5, cb b3_1 c 6, cb b3_1 c 7, cb b3_1 c 8, cb b3_1 c 9, cb b3_1 c 10]) rfl,
  fun f s W c d h i j a => opc rfl rfl (by simp [go_sem, a.e 14 (d 0 rfl)]) (wishR_any l1 h1' l2 h2' l3 h3' l4 h4' l5 h5' wo W),
  fun f s W c d h i j a => opm (a.v 15 (d 1 rfl)), trivial⟩ ?_
  intro f5 s5 W5 hB5 g5 hg5 z5
  have k5_8 := kt hg5 8 (hB5.is 2)
  refine rw_ 2 [(16, 0), (17, 1)] [[], [0]] (rel [iI ((wishR ⟨(l1, h1'), (l2, h2'), (l3, h3'), (l4, h4'), (l5, h5'), wo⟩)), iB ((wishR ⟨(l1, h1'), (l2, h2'), (l3, h3'), (l4, h4'), (l5, h5'), wo⟩) != 0)])
   ⟨fun f s W c d h i j a => opm (a.v 8 k5_8),
  fun f s W c d h i j a => opv rfl rfl (by simp [go_sem, a.e 16 (d 0 rfl)]) rfl, trivial⟩ ?_
  intro f6 s6 W6 hB6 g6 hg6 z6
  have fB6 := hB6.f (hB5.f fB3)
  have b6_2 := hB6.b (hB5.b (hB3.b (hB2.b br1_2)))
  have k6_5 := kt hg6 5 (kt hg5 5 (kt hg3 5 (kt hg2 5 (kt hg1 5 r1_2))))
  have k6_8 := kt hg6 8 k5_8
  have k6_17 := kt hg6 17 (hB6.is 1)
  refine wp_cond_split (t := (wishR ⟨(l1, h1'), (l2, h2'), (l3, h3'), (l4, h4'), (l5, h5'), wo⟩) != 0) ((fr_eval rfl).trans k6_17) (fun hc10 => ?_) (fun hc10 => ?_)
  ·
   have hc10' := hc10; try simp only [ba] at hc10'
   refine rw_ 2 [(18, 0), (6, 1)] [[], [0]] (rel [iI ((wishR ⟨(l1, h1'), (l2, h2'), (l3, h3'), (l4, h4'), (l5, h5'), wo⟩)), iI ((wishR ⟨(l1, h1'), (l2, h2'), (l3, h3'), (l4, h4'), (l5, h5'), wo⟩))])
    ⟨fun f s W c d h i j a => opm (a.v 8 k6_8),
  fun f s W c d h i j a => opm (a.v 18 (d 0 rfl)), trivial⟩ ?_
   intro f7 s7 W7 hB7 g7 hg7 z7
   have fB7 := hB7.f fB6
   have k7_6 := kt hg7 6 (hB7.is 1)
   refine wp_ret ?_
   refine then_ret ?_
   refine leave_one (N := 22) (.inr rfl) Tryz.results25 rfl k7_6 ?_
   exact ⟨by unfold askedR; rw [if_neg (by rw [hc5]; exact Bool.false_ne_true)]; rw [if_pos hc10], fB7⟩
  ·
   have hc10' := hc10; try simp only [ba] at hc10'
   refine wp_skip ?_
   refine hK7 _ _ ?_
   refine wp_seq_k fun K12 hK12 => ?_
   refine rw_ 3 [(19, 0), (20, 1), (21, 2)] [[], [0], [1]] (rel [is (.agg #[.int .i64 lo, .int .i64 hi]), iB (spanR lo hi (1) (10000)), iB (!(spanR lo hi (1) (10000)))])
    ⟨fun f s W c d h i j a => opv rfl rfl (by simp [go_sem, a.e 5 k6_5, cb b6_2 c 0, cb b6_2 c 1]) rfl,
  fun f s W c d h i j a => opc rfl rfl (by simp [go_sem, a.e 19 (d 0 rfl)]) (spanR_any lo hi (1) (10000) W),
  fun f s W c d h i j a => opv rfl rfl (by simp [go_sem, a.e 20 (d 1 rfl)]) rfl, trivial⟩ ?_
   intro f8 s8 W8 hB8 g8 hg8 z8
   have fB8 := hB8.f fB6
   have k8_21 := kt hg8 21 (hB8.is 2)
   refine wp_cond_split (t := !(spanR lo hi (1) (10000))) ((fr_eval rfl).trans k8_21) (fun hc14 => ?_) (fun hc14 => ?_)
   ·
    have hc14' := hc14; try simp only [ba] at hc14'
    refine rw_ 1 [(6, 0)] [[]] (rel [iI 3])
     ⟨fun f s W c d h i j a => opz, trivial⟩ ?_
    intro f9 s9 W9 hB9 g9 hg9 z9
    have fB9 := hB9.f fB8
    have k9_6 := kt hg9 6 (hB9.is 0)
    refine wp_ret ?_
    refine then_ret ?_
    refine leave_one (N := 22) (.inr rfl) Tryz.results25 rfl k9_6 ?_
    exact ⟨by unfold askedR; rw [if_neg (by rw [hc5]; exact Bool.false_ne_true)]; rw [if_neg (by rw [hc10]; exact Bool.false_ne_true)]; rw [if_pos hc14], fB9⟩
   ·
    have hc14' := hc14; try simp only [ba] at hc14'
    refine wp_skip ?_
    refine hK12 _ _ ?_
    refine rw_ 1 [(6, 0)] [[]] (rel [iI 0])
     ⟨fun f s W c d h i j a => opz, trivial⟩ ?_
    intro f10 s10 W10 hB10 g10 hg10 z10
    have fB10 := hB10.f fB8
    have k10_6 := kt hg10 6 (hB10.is 0)
    refine wp_ret ?_
    refine leave_one (N := 22) (.inr rfl) Tryz.results25 rfl k10_6 ?_
    exact ⟨by unfold askedR; rw [if_neg (by rw [hc5]; exact Bool.false_ne_true)]; rw [if_neg (by rw [hc10]; exact Bool.false_ne_true)]; rw [if_neg (by rw [hc14]; exact Bool.false_ne_true)], fB10⟩
open Go.RowKit
theorem wishR_eq (w : Wi) : wishR w = wishErr w := by
  unfold wishR wishErr wishRB
  simp only [spanR_eq]
  cases isSpan w.length 0 3000 <;> cases isSpan w.width 0 3000 <;> cases isSpan w.height 0 3000 <;> cases isSpan w.outer (-3000) 3000 <;> cases isSpan w.inner (-3000) 3000 <;> rfl
theorem askedR_eq (b : Bl) (w : Wi) (s : Sp) : askedR b w s = wishedErr b w [s] := by
  unfold askedR wishedErr checkedErr
  rw [refCheck_eq, wishR_eq, spanR_eq]
  by_cases h1 : checkErr b = 0
  · by_cases h2 : wishErr w = 0
    · simp [h1, h2]
    · simp [h1, h2]
  · simp [h1]
theorem wished_parts {b : Bl} {w : Wi} {l : List Sp} (h : wishedErr b w l = 0) : checkErr b = 0 ∧ wishErr w = 0 := by
  unfold wishedErr at h
  split at h
  · rename_i h1
    split at h
    · rename_i h2; exact ⟨h1, h2⟩
    · rename_i h2; exact absurd h h2
  · rename_i h1; exact absurd h h1
theorem wished_span {b : Bl} {w : Wi} {s : Sp} (h : wishedErr b w [s] = 0) : isSpan s 1 10000 = true := by
  obtain ⟨h1, h2⟩ := wished_parts h
  unfold wishedErr checkedErr at h
  rw [if_pos h1, if_pos h2] at h
  by_cases e : isSpan s 1 10000 = true
  · exact e
  · simp [e] at h
open Go.RowKit
theorem copy_own (a1 a2 a3 : Option Addr) (c1 c2 c3 : Nat) (tab p0 p1 p2 p3 hh t0 t1 u0 u1 sl : Int) (op : Bool) (w : World) (h1 : Ii w a1 4 c1 [p0, p1, p2, p3]) (h2 : Ii w a2 2 c2 [t0, t1]) (h3 : Ii w a3 2 c3 [u0, u1]) :
  Calls Tryz.prog 48 #[.agg #[.int .i64 tab, .slice a1 4 c1, .int .i64 hh, .slice a2 2 c2, .slice a3 2 c3, .int .i64 sl, .bool op]] w (OwBlkP ⟨tab, [p0, p1, p2, p3], hh, [t0, t1], [u0, u1], sl, op⟩ w) := by
 refine calls_fr Tryz.func48 Tryz.ntmps48 rfl rfl fun g hg => ?_
 have k0 : g 0 = .agg #[.int .i64 tab, .slice a1 4 c1, .int .i64 hh, .slice a2 2 c2, .slice a3 2 c3, .int .i64 sl, .bool op] := hg 0
 clear hg
 have fB0 : Below w.heap.size w w := Below.refl _ _
 refine rw_ 2 [(1, 0), (2, 1)] [[], []] (rel [bx 0 #[.int .i64 tab, .slice a1 4 c1, .int .i64 hh, .slice a2 2 c2, .slice a3 2 c3, .int .i64 sl, .bool op] 24, bx 1 #[.int .i64 0, .slice none 0 0, .int .i64 0, .slice none 0 0, .slice none 0 0, .int .i64 0, .bool false] 24])
  ⟨fun f s W c d i j l a => opb rfl rfl (by simp [go_sem, a.e 0 k0]),
  fun f s W c d i j l a => opb rfl rfl (by simp [go_sem]), trivial⟩ ?_
 intro f1 s1 W1 hB1 g1 hg1 z1
 have fB1 := hB1.f fB0
 obtain ⟨r1_0, br1_0⟩ := hB1.is 0
 have lr1_0 := hB1.lr 0 br1_0
 obtain ⟨r1_1, br1_1⟩ := hB1.is 1
 have lr1_1 := hB1.lr 1 br1_1
 have ne1_0_1 := hB1.nb 0 1
 have k1_1 := kt hg1 1 r1_0
 refine wp_seq_k fun K2 hK2 => ?_
 refine rz 13 [(3, 0), (4, 1), (5, 2), (6, 3), (7, 4), (8, 5), (9, 6), (10, 7), (11, 8), (12, 9), (13, 10), (14, 11), (15, 12), (16, 14), (17, 16)] [[], [], [1], [0, 2], [], [], [5], [4, 6], [], [], [9], [4, 7, 8, 10], [], [0, 1, 2, 3, 4, 5, 6, 7, 8, 9, 10, 11, 12], [0, 1, 2, 3, 4, 5, 6, 7, 8, 9, 10, 11, 12, 13], [0, 1, 2, 3, 4, 5, 6, 7, 8, 9, 10, 11, 12, 13, 14], [0, 1, 2, 3, 4, 5, 6, 7, 8, 9, 10, 11, 12, 13, 14, 15], [0, 1, 2, 3, 4, 5, 6, 7, 8, 9, 10, 11, 12, 13, 14, 15, 16]] (rel [row 0 0 #[] 3, is (.pointer (some ⟨(s1 0), 1, none⟩)), is (.slice a1 4 c1), fun v s W => OwI (s 3) ([p0, p1, p2, p3]) 4 v W, row 4 0 #[] 3, is (.pointer (some ⟨(s1 0), 3, none⟩)), is (.slice a2 2 c2), fun v s W => OwI (s 7) ([t0, t1]) 2 v W, row 8 0 #[] 3, is (.pointer (some ⟨(s1 0), 4, none⟩)), is (.slice a3 2 c3), fun v s W => OwI (s 11) ([u0, u1]) 2 v W, is (.pointer (some ⟨(s1 0), 1, none⟩))])
  ⟨row_k, is_k, is_k, ⟨fun v k W W' hb h => h.below hb, fun v s s' W e h => by have h' : OwI (s 3) ([p0, p1, p2, p3]) 4 v W := h; show OwI (s' 3) ([p0, p1, p2, p3]) 4 v W; rw [← e 3 (by simp)]; exact h'⟩, row_k, is_k, is_k, ⟨fun v k W W' hb h => h.below hb, fun v s s' W e h => by have h' : OwI (s 7) ([t0, t1]) 2 v W := h; show OwI (s' 7) ([t0, t1]) 2 v W; rw [← e 7 (by simp)]; exact h'⟩, row_k, is_k, is_k, ⟨fun v k W W' hb h => h.below hb, fun v s s' W e h => by have h' : OwI (s 11) ([u0, u1]) 2 v W := h; show OwI (s' 11) ([u0, u1]) 2 v W; rw [← e 11 (by simp)]; exact h'⟩, is_k, trivial⟩
  ⟨fun f s W c d i j l a => opr rfl rfl (by simp [go_sem]),
  fun f s W c d i j l a => opv rfl rfl (by simp [go_sem, a.e 1 k1_1]) rfl,
  fun f s W c d i j l a => opv rfl rfl (by simp [go_sem, a.e 4 (d 1 rfl), cb br1_0 c 1]) rfl,
  fun f s W c d i j l a => by have m := bwt fB1 c; obtain ⟨v_, W_, r_, b_, i_⟩ := cloneO_run 22 W (s 0) (a1) (c1) ([p0, p1, p2, p3]) 4 ((h1.below m (Nat.le_refl _))) ((by decide)) ((by decide)) (d 0 rfl).2; exact opDo_value rfl rfl (run_appendOp (a.v 3 (d 0 rfl).1) (a.v 5 (d 2 rfl)) r_) b_ (show OwI (upd s 3 W.heap.size 3) ([p0, p1, p2, p3]) 4 v_ W_ from by rw [upd_at]; exact i_),
  fun f s W c d i j l a => opr rfl rfl (by simp [go_sem]),
  fun f s W c d i j l a => opv rfl rfl (by simp [go_sem, a.e 1 k1_1]) rfl,
  fun f s W c d i j l a => opv rfl rfl (by simp [go_sem, a.e 8 (d 5 rfl), cb br1_0 c 3]) rfl,
  fun f s W c d i j l a => by have m := bwt fB1 c; obtain ⟨v_, W_, r_, b_, i_⟩ := cloneO_run 22 W (s 4) (a2) (c2) ([t0, t1]) 2 ((h2.below m (Nat.le_refl _))) ((by decide)) ((by decide)) (d 4 rfl).2; exact opDo_value rfl rfl (run_appendOp (a.v 7 (d 4 rfl).1) (a.v 9 (d 6 rfl)) r_) b_ (show OwI (upd s 7 W.heap.size 7) ([t0, t1]) 2 v_ W_ from by rw [upd_at]; exact i_),
  fun f s W c d i j l a => opr rfl rfl (by simp [go_sem]),
  fun f s W c d i j l a => opv rfl rfl (by simp [go_sem, a.e 1 k1_1]) rfl,
  fun f s W c d i j l a => opv rfl rfl (by simp [go_sem, a.e 12 (d 9 rfl), cb br1_0 c 4]) rfl,
  fun f s W c d i j l a => by have m := bwt fB1 c; obtain ⟨v_, W_, r_, b_, i_⟩ := cloneO_run 22 W (s 8) (a3) (c3) ([u0, u1]) 2 ((h3.below m (Nat.le_refl _))) ((by decide)) ((by decide)) (d 8 rfl).2; exact opDo_value rfl rfl (run_appendOp (a.v 11 (d 8 rfl).1) (a.v 13 (d 10 rfl)) r_) b_ (show OwI (upd s 11 W.heap.size 11) ([u0, u1]) 2 v_ W_ from by rw [upd_at]; exact i_),
  fun f s W c d i j l a => opv rfl rfl (by simp [go_sem, a.e 1 k1_1]) rfl, trivial⟩ ?_
 intro f2 s2 W2 hB2 g2 hg2 z2
 have fB2 := hB2.f fB1
 have b2_0 := hB2.b br1_0
 have b2_1 := hB2.b br1_1
 obtain ⟨r2_0, br2_0⟩ := hB2.is 0
 have lr2_0 := hB2.lr 0 br2_0
 obtain ⟨g1', c2', r2_3, q3'⟩ := hB2.is 3
 have la2_3 := hB2.from' 3 (by decide)
 have lo2_3_o := q3'.lim
 have q4' := q3'.low (B' := w.heap.size) (Nat.le_trans fB1.size (la2_3))
 obtain ⟨r2_4, br2_4⟩ := hB2.is 4
 have lr2_4 := hB2.lr 4 br2_4
 obtain ⟨g5', c6', r2_7, q7'⟩ := hB2.is 7
 have la2_7 := hB2.from' 7 (by decide)
 have lo2_7_o := q7'.lim
 have q8' := q7'.low (B' := w.heap.size) (Nat.le_trans fB1.size (la2_7))
 obtain ⟨r2_8, br2_8⟩ := hB2.is 8
 have lr2_8 := hB2.lr 8 br2_8
 obtain ⟨g9', c10', r2_11, q11'⟩ := hB2.is 11
 have la2_11 := hB2.from' 11 (by decide)
 have lo2_11_o := q11'.lim
 have q12' := q11'.low (B' := w.heap.size) (Nat.le_trans fB1.size (la2_11))
 have oo2_3_o_0 := hB2.off 3 0 (by decide) (by decide) (by decide) lo2_3_o.1 (fun W h => OwI.lt h r2_3) (fun _ _ _ h => ltb h.2)
 have oo2_3_o_4 := hB2.off 3 4 (by decide) (by decide) (by decide) lo2_3_o.1 (fun W h => OwI.lt h r2_3) (fun _ _ _ h => ltb h.2)
 have oo2_3_o_8 := hB2.off 3 8 (by decide) (by decide) (by decide) lo2_3_o.1 (fun W h => OwI.lt h r2_3) (fun _ _ _ h => ltb h.2)
 have oo2_7_o_0 := hB2.off 7 0 (by decide) (by decide) (by decide) lo2_7_o.1 (fun W h => OwI.lt h r2_7) (fun _ _ _ h => ltb h.2)
 have oo2_7_o_4 := hB2.off 7 4 (by decide) (by decide) (by decide) lo2_7_o.1 (fun W h => OwI.lt h r2_7) (fun _ _ _ h => ltb h.2)
 have oo2_7_o_8 := hB2.off 7 8 (by decide) (by decide) (by decide) lo2_7_o.1 (fun W h => OwI.lt h r2_7) (fun _ _ _ h => ltb h.2)
 have ow2_7_o_3_o := hB2.two 7 3 (by decide) (by decide) (by decide) lo2_7_o.1 lo2_3_o.1 (fun W h => OwI.lt h r2_7) (fun W h => OwI.lt h r2_3)
 have oo2_11_o_0 := hB2.off 11 0 (by decide) (by decide) (by decide) lo2_11_o.1 (fun W h => OwI.lt h r2_11) (fun _ _ _ h => ltb h.2)
 have oo2_11_o_4 := hB2.off 11 4 (by decide) (by decide) (by decide) lo2_11_o.1 (fun W h => OwI.lt h r2_11) (fun _ _ _ h => ltb h.2)
 have oo2_11_o_8 := hB2.off 11 8 (by decide) (by decide) (by decide) lo2_11_o.1 (fun W h => OwI.lt h r2_11) (fun _ _ _ h => ltb h.2)
 have ow2_11_o_3_o := hB2.two 11 3 (by decide) (by decide) (by decide) lo2_11_o.1 lo2_3_o.1 (fun W h => OwI.lt h r2_11) (fun W h => OwI.lt h r2_3)
 have ow2_11_o_7_o := hB2.two 11 7 (by decide) (by decide) (by decide) lo2_11_o.1 lo2_7_o.1 (fun W h => OwI.lt h r2_11) (fun W h => OwI.lt h r2_7)
 have ne2_0_4 := hB2.nb 0 4
 have ne2_0_8 := hB2.nb 0 8
 have ne2_4_8 := hB2.nb 4 8
 have k2_1 := kt hg2 1 k1_1
 have k2_6 := kt hg2 6 r2_3
 have k2_15 := kt hg2 15 (hB2.is 12)
 obtain ⟨W3, hW3⟩ : ∃ W', W' = W2.setRow (s1 0) #[.int .i64 tab, .slice (some ⟨g1', 0, none⟩) 4 c2', .int .i64 hh, .slice a2 2 c2, .slice a3 2 c3, .int .i64 sl, .bool op] := ⟨_, rfl⟩
 refine tsk (o := _) rfl ⟨rfl, rfl⟩ (run_seg hW3 (fr_ev k2_15) (fr_ev k2_6) b2_0 rfl rfl rfl rfl) ?_
 obtain ⟨fB3, nb3, ot3, z3⟩ := sgf hW3 fB2 b2_0 (by omega)
 clear hW3
 have b3_1 := ot3 _ _ (by omega) b2_1
 have q13' := q4'.other ot3 (by omega) z3
 have q14' := q8'.other ot3 (by omega) z3
 have q15' := q12'.other ot3 (by omega) z3
 refine tail_value (o := _) rfl rfl rfl (v := .pointer (some ⟨(s1 0), 3, none⟩)) (by simp [go_sem, frv 19 k2_1]) ?_
 generalize hg4 : upd g2 16 (.pointer (some ⟨(s1 0), 3, none⟩)) = g4
 have k4_1 := ku hg4 1 k2_1
 have k4_10 := ku hg4 10 (kt hg2 10 r2_7)
 have k4_16 := kt hg4 16 (upd_same _ _ _)
 obtain ⟨W5, hW5⟩ : ∃ W', W' = W3.setRow (s1 0) #[.int .i64 tab, .slice (some ⟨g1', 0, none⟩) 4 c2', .int .i64 hh, .slice (some ⟨g5', 0, none⟩) 2 c6', .slice a3 2 c3, .int .i64 sl, .bool op] := ⟨_, rfl⟩
 refine tsk (o := _) rfl ⟨rfl, rfl⟩ (run_seg hW5 (fr_ev k4_16) (fr_ev k4_10) nb3 rfl rfl rfl rfl) ?_
 obtain ⟨fB5, nb5, ot5, z5⟩ := sgf hW5 fB3 nb3 (by omega)
 clear hW5
 have b5_1 := ot5 _ _ (by omega) b3_1
 have q16' := q13'.other ot5 (by omega) z5
 have q17' := q14'.other ot5 (by omega) z5
 have q18' := q15'.other ot5 (by omega) z5
 refine tail_value (o := _) rfl rfl rfl (v := .pointer (some ⟨(s1 0), 4, none⟩)) (by simp [go_sem, frv 19 k4_1]) ?_
 generalize hg6 : upd g4 17 (.pointer (some ⟨(s1 0), 4, none⟩)) = g6
 have k6_1 := ku hg6 1 k4_1
 have k6_14 := ku hg6 14 (ku hg4 14 (kt hg2 14 r2_11))
 have k6_17 := kt hg6 17 (upd_same _ _ _)
 obtain ⟨W7, hW7⟩ : ∃ W', W' = W5.setRow (s1 0) #[.int .i64 tab, .slice (some ⟨g1', 0, none⟩) 4 c2', .int .i64 hh, .slice (some ⟨g5', 0, none⟩) 2 c6', .slice (some ⟨g9', 0, none⟩) 2 c10', .int .i64 sl, .bool op] := ⟨_, rfl⟩
 refine tsk (o := _) rfl ⟨rfl, rfl⟩ (run_seg hW7 (fr_ev k6_17) (fr_ev k6_14) nb5 rfl rfl rfl rfl) ?_
 obtain ⟨fB7, nb7, ot7, z7⟩ := sgf hW7 fB5 nb5 (by omega)
 clear hW7
 have b7_1 := ot7 _ _ (by omega) b5_1
 have q19' := q16'.other ot7 (by omega) z7
 have q20' := q17'.other ot7 (by omega) z7
 have q21' := q18'.other ot7 (by omega) z7
 refine wpe ?_
 refine hK2 _ _ ?_
 refine wp_seq_k fun K3 hK3 => ?_
 refine ry 1 [(18, 0)] [[], [0]] (rel [is (.agg #[.int .i64 tab, .slice (some ⟨g1', 0, none⟩) 4 c2', .int .i64 hh, .slice (some ⟨g5', 0, none⟩) 2 c6', .slice (some ⟨g9', 0, none⟩) 2 c10', .int .i64 sl, .bool op])])
  ⟨fun f s W c d i j l a => opv rfl rfl (by simp [go_sem, a.e 1 k6_1, cb nb7 c 0, cb nb7 c 1, cb nb7 c 2, cb nb7 c 3, cb nb7 c 4, cb nb7 c 5, cb nb7 c 6]) rfl, trivial⟩ ?_
 intro f8 s8 W8 hB8 g8 hg8 z8
 have fB8 := hB8.f fB7
 have b8_1 := hB8.b b7_1
 have q22' := (q19'.below hB8.below)
 have q23' := (q20'.below hB8.below)
 have q24' := (q21'.below hB8.below)
 have k8_2 := kt hg8 2 (ku hg6 2 (ku hg4 2 (kt hg2 2 (kt hg1 2 r1_1))))
 have k8_18 := kt hg8 18 (hB8.is 0)
 obtain ⟨W9, hW9⟩ : ∃ W', W' = W8.setRow (s1 1) #[.int .i64 tab, .slice (some ⟨g1', 0, none⟩) 4 c2', .int .i64 hh, .slice (some ⟨g5', 0, none⟩) 2 c6', .slice (some ⟨g9', 0, none⟩) 2 c10', .int .i64 sl, .bool op] := ⟨_, rfl⟩
 refine tsk (o := _) rfl ⟨rfl, rfl⟩ (run_seg hW9 (fr_ev k8_2) (fr_ev k8_18) b8_1 rfl rfl rfl rfl) ?_
 obtain ⟨fB9, nb9, ot9, z9⟩ := sgf hW9 fB8 b8_1 (by omega)
 clear hW9
 have q25' := q22'.other ot9 (by omega) z9
 have q26' := q23'.other ot9 (by omega) z9
 have q27' := q24'.other ot9 (by omega) z9
 refine wpe ?_
 refine hK3 _ _ ?_
 refine wp_ret ?_
 refine leave_gen (v := .agg #[.int .i64 tab, .slice (some ⟨g1', 0, none⟩) 4 c2', .int .i64 hh, .slice (some ⟨g5', 0, none⟩) 2 c6', .slice (some ⟨g9', 0, none⟩) 2 c10', .int .i64 sl, .bool op]) (.inr rfl) (by simp [results, Tryz.results48, go_sem, frv 19 k8_2, cl nb9 0, cl nb9 1, cl nb9 2, cl nb9 3, cl nb9 4, cl nb9 5, cl nb9 6]) ?_
 exact ⟨_, rfl, ⟨_, _, _, _, _, _, rfl, q25', q26', q27', by omega, by omega, by omega⟩, fB9⟩
open Go.RowKit
theorem OwnI.iin {B : Nat} {xs : List Int} {g c n : Nat} {W : World} (h : OwnI B xs g c W) (hn : xs.length = n) : Ii W (some ⟨g, 0, none⟩) n c xs := hn ▸ h.ii
theorem Ii.lim {W : World} {a : Option Addr} {n c : Nat} {xs : List Int} (h : Ii W a n c xs) : ∀ g o, a = some ⟨g, o, none⟩ → xs ≠ [] → g < W.heap.size := by
  intro g o e hne
  obtain ⟨b, off, e', hl, -⟩ := h.at (List.length_pos_iff.2 hne)
  rw [e] at e'
  cases e'
  exact hl
theorem check_lit {tab p0 p1 p2 p3 hh t0 t1 u0 u1 sl : Int} {op : Bool} (gt : 0 ≤ tab ∧ tab ≤ 100) (gs : 0 ≤ sl ∧ sl ≤ 20) (gh : 1 ≤ hh ∧ hh ≤ 3000) (g0 : 1 ≤ p0 ∧ p0 ≤ 3000) (g1 : 1 ≤ p1 ∧ p1 ≤ 3000) (g2 : 1 ≤ p2 ∧ p2 ≤ 3000) (g3 : 1 ≤ p3 ∧ p3 ≤ 3000)
    (k0 : 0 ≤ t0 ∧ t0 ≤ 3000) (k1 : 0 ≤ t1 ∧ t1 ≤ 3000) (m0 : 0 ≤ u0 ∧ u0 ≤ 3000) (m1 : 0 ≤ u1 ∧ u1 ≤ 3000) (ho : op = true → t0 = 0 ∧ t1 = 0) : checkErr ⟨tab, [p0, p1, p2, p3], hh, [t0, t1], [u0, u1], sl, op⟩ = 0 := by
  have e1 : lensOk ⟨tab, [p0, p1, p2, p3], hh, [t0, t1], [u0, u1], sl, op⟩ = true := rfl
  have e2 : numsOk ⟨tab, [p0, p1, p2, p3], hh, [t0, t1], [u0, u1], sl, op⟩ = true := by
    simp only [numsOk, areLong, within, List.any_cons, List.any_nil, List.cons_append, List.nil_append, Bool.and_eq_true, Bool.not_eq_true', Bool.or_eq_false_iff, decide_eq_false_iff_not]
    refine ⟨⟨?_, trivial⟩, ⟨?_, ?_, ?_, ?_, trivial⟩, ⟨?_, trivial⟩, ⟨?_, ?_, ?_, ?_, trivial⟩, ?_, trivial⟩ <;> omega
  unfold checkErr
  rw [e1, e2]
  simp only [Bool.true_eq_false, if_false]
  cases op with
  | false => rfl
  | true =>
    obtain ⟨rfl, rfl⟩ := ho rfl
    rfl
open Go.RowKit
def OvP (xs : List Int) (w : World) (e : Ending) (w' : World) : Prop := ∃ v, e = .returned v ∧ (∃ a c, v = .slice a xs.length c ∧ OwnV 3 1 w.heap.size (iis xs) xs.length a c w') ∧ Below w.heap.size w w'
theorem aroundR_ov (n off least : Int) (w : World) (g0 : 0 ≤ n) (g1 : n ≤ 3000) (g2 : 0 ≤ off) (g3 : off ≤ 100) (hl0 : 0 ≤ least) (hl : least ≤ 3000) :
  Calls Tryz.prog 55 #[.int .i64 n, .int .i64 off, .int .i64 least] w (OvP (aroundL n off least) w) := by
 refine calls_fr Tryz.func55 Tryz.ntmps55 rfl rfl fun g hg => ?_
 have k0 : g 0 = .int .i64 n := hg 0
 have k1 : g 1 = .int .i64 off := hg 1
 have k2 : g 2 = .int .i64 least := hg 2
 clear hg
 have fB0 : Below w.heap.size w w := Below.refl _ _
 refine rw_ 1 [(6, 0)] [[]] (rel [is (.slice none 0 0)])
  ⟨fun f s W d h i j l b => opv rfl rfl (by simp [go_sem]) rfl, trivial⟩ ?_
 intro f1 s1 W1 hB1 g1 hg1 z1
 have fB1 := hB1.f fB0
 refine rx 2 [(9, 0), (7, 1)] [[], [0]] (rel [row 0 0 #[] 3, isS fun s => .slice (some ⟨(s 0), 0, none⟩) (0) (0)])
  ⟨row_k, isS_k fun s s' e => by rw [e 0 (by simp)], trivial⟩
  ⟨fun f s W d h i j l b => opr rfl rfl (by simp [go_sem]),
  fun f s W d h i j l b => opv rfl rfl (by simp [go_sem, b.e 9 (h 0 rfl).1, upd]) rfl, trivial⟩ ?_
 intro f2 s2 W2 hB2 g2 hg2 z2
 obtain ⟨r2_0, br2_0⟩ := hB2.is 0
 have lr2_0 := hB2.lr 0 br2_0
 have k2_0 := kt hg2 0 (kt hg1 0 k0)
 have k2_1 := kt hg2 1 (kt hg1 1 k1)
 have ow0 : OwnV 3 1 w.heap.size (iis (rangeL (max least (n - off)) (min 3000 ((n - off) - 1)))) (rangeL (max least (n - off)) (min 3000 ((n - off) - 1))).length (some ⟨(s2 0), 0, none⟩) 0 W2 := by rw [rangeL_nil (by omega)]; exact ownV_block (T := 3) (z := 1) (B := w.heap.size) br2_0 (by have := fB1.size; omega)
 refine wp_seq_k fun K3 hK3 => ?_
 refine rw_ 4 [(10, 0), (11, 1), (12, 2), (8, 3)] [[], [], [0, 1], [2]] (rel [iI n, iI off, iI (n - off), iI (n - off)])
  ⟨fun f s W d h i j l b => opm (b.v 0 k2_0),
  fun f s W d h i j l b => opm (b.v 1 k2_1),
  fun f s W d h i j l b => opv rfl rfl (by simp [go_sem, b.e 10 (h 0 rfl), b.e 11 (h 1 rfl), IntWalk.i64_in (n - off) (by omega)]) rfl,
  fun f s W d h i j l b => opm (b.v 12 (h 2 rfl)), trivial⟩ ?_
 intro f3 s3 W3 hB3 g3 hg3 z3
 have fB3 := hB3.f (hB2.f fB1)
 have q1' := (ow0.below hB3.below)
 have k3_0 := kt hg3 0 k2_0
 have k3_1 := kt hg3 1 k2_1
 have k3_2 := kt hg3 2 (kt hg2 2 (kt hg1 2 k2))
 have k3_6 := kt hg3 6 (kt hg2 6 (kt hg1 6 (hB1.is 0)))
 have k3_7 := kt hg3 7 (kt hg2 7 (hB2.is 1))
 have k3_8 := kt hg3 8 (hB3.is 3)
 refine wp_block ?_
 refine wp_loop_n (fun m_ a_ W_ => ∃ g_ : Nat → Value, a_ = fr 28 g_ ∧ (∃ x : Int, ∃ a : Option Addr, ∃ cc : Nat, m_ = (n + off + 1 - x).toNat ∧ g_ 0 = .int .i64 n ∧ g_ 1 = .int .i64 off ∧ g_ 2 = .int .i64 least ∧ g_ 6 = .slice none 0 0 ∧ g_ 8 = .int .i64 x ∧ g_ 7 = .slice (a) ((rangeL (max least (n - off)) (min 3000 (x - 1))).length) (cc) ∧ Below w.heap.size w W_ ∧ W3.heap.size ≤ W_.heap.size ∧ OwnV 3 1 w.heap.size (iis (rangeL (max least (n - off)) (min 3000 (x - 1)))) ((rangeL (max least (n - off)) (min 3000 (x - 1))).length) a cc W_ ∧ (n - off ≤ x) ∧ (x ≤ n + off + 1))) ⟨_, g3, rfl, n - off, _, _, rfl, k3_0, k3_1, k3_2, k3_6, k3_8.trans (by rfl), k3_7.trans (by rw [rangeL_nil (by omega)]; rfl), fB3, Nat.le_refl _, q1', (by omega), (by omega)⟩ ?_
 rintro _ _ W_2 ⟨g_2, rfl, x, a, cc, rfl, k_2_0, k_2_1, k_2_2, k_2_6, k_2_8, k_2_7, fB_2, z_2, q3', lp0, lp1⟩
 refine wp_seq_k fun K5 hK5 => ?_
 refine rw_ 5 [(13, 0), (14, 1), (15, 2), (16, 3), (17, 4)] [[], [], [], [1, 2], [0, 3]] (rel [iI x, iI n, iI off, iI (n + off), iB (decide (x ≤ (n + off)))])
  ⟨fun f s W d h i j l b => opm (b.v 8 k_2_8),
  fun f s W d h i j l b => opm (b.v 0 k_2_0),
  fun f s W d h i j l b => opm (b.v 1 k_2_1),
  fun f s W d h i j l b => opv rfl rfl (by simp [go_sem, b.e 14 (h 1 rfl), b.e 15 (h 2 rfl), IntWalk.i64_in (n + off) (by omega)]) rfl,
  fun f s W d h i j l b => opv rfl rfl (by simp [go_sem, b.e 13 (h 0 rfl), b.e 16 (h 3 rfl)]) rfl, trivial⟩ ?_
 intro f4 s4 W4 hB4 g4 hg4 z4
 have fB4 := hB4.f fB_2
 have q4' := (q3'.below hB4.below)
 have k4_2 := kt hg4 2 k_2_2
 have k4_8 := kt hg4 8 k_2_8
 have k4_7 := kt hg4 7 k_2_7
 have k4_17 := kt hg4 17 (hB4.is 4)
 refine wp_cond_split (t := decide (x ≤ (n + off))) ((fr_eval rfl).trans k4_17) (fun hc7 => ?_) (fun hc7 => ?_)
 ·
  have hc7' := hc7; try simp only [ba] at hc7'
  refine wp_skip ?_
  refine hK5 _ _ ?_
  refine wp_seq_k fun K8 hK8 => ?_
  refine wp_block ?_
  refine rw_ 3 [(20, 0), (21, 1), (22, 2)] [[], [], [0, 1]] (rel [iI x, iI least, iB (inB (x) (least) (3000))])
   ⟨fun f s W d h i j l b => opm (b.v 8 k4_8),
  fun f s W d h i j l b => opm (b.v 2 k4_2),
  fun f s W d h i j l b => opc rfl rfl (by simp [go_sem, b.e 20 (h 0 rfl), b.e 21 (h 1 rfl)]) (in_any (x) (least) (3000) W), trivial⟩ ?_
  intro f5 s5 W5 hB5 g5 hg5 z5
  have fB5 := hB5.f fB4
  have q5' := (q4'.below hB5.below)
  have k5_0 := kt hg5 0 (kt hg4 0 k_2_0)
  have k5_1 := kt hg5 1 (kt hg4 1 k_2_1)
  have k5_2 := kt hg5 2 k4_2
  have k5_6 := kt hg5 6 (kt hg4 6 k_2_6)
  have k5_8 := kt hg5 8 k4_8
  have k5_7 := kt hg5 7 k4_7
  have k5_22 := kt hg5 22 (hB5.is 2)
  refine wp_cond_split (t := inB (x) (least) (3000)) ((fr_eval rfl).trans k5_22) (fun hc10 => ?_) (fun hc10 => ?_)
  ·
   have hc10' := hc10; try simp only [ba] at hc10'
   refine ry 3 [(23, 0), (24, 1), (25, 2), (26, 3), (7, 4)] [[], [], [1], [0, 1, 2], [0, 1, 2, 3]] (rel [is (.slice (a) ((rangeL (max least (n - off)) (min 3000 (x - 1))).length) (cc)), iI x, row 2 1 #[.int .i64 x] 3])
    ⟨fun f s W d h i j l b => opm (b.v 7 ((j 4 7 rfl rfl).trans k5_7)),
  fun f s W d h i j l b => opm (b.v 8 k5_8),
  fun f s W d h i j l b => opr rfl rfl (by simp [go_sem, b.e 24 (h 1 rfl)]), trivial⟩ ?_
   intro f6 s6 W6 hB6 g6 hg6 z6
   have fB6 := hB6.f fB5
   have q6' := (q5'.below hB6.below)
   obtain ⟨r6_2, br6_2⟩ := hB6.is 2
   have lr6_2 := hB6.lr 2 br6_2
   have k6_23 := kt hg6 23 (hB6.is 0)
   have k6_25 := kt hg6 25 r6_2
   obtain ⟨ga7, ca7, W7, ra7, ow7, ot7, z7, fB7⟩ := growV_tail 22 22 3 1 8 (.int .i64 0) Tryz.underlying22 (by kernel_rfl) rfl (c := cc) (iis (rangeL (max least (n - off)) (min 3000 (x + 1 - 1)))) ((rangeL (max least (n - off)) (min 3000 (x + 1 - 1))).length) (k := 1) (c' := 1) [.int .i64 x] fB6 q6' (by rw [iis_snoc, around_hit lp0 hc10]) (by rw [← around_hit lp0 hc10]; simp) (Nat.le_refl _) rfl rfl (cells_at br6_2) (by rw [rangeL_len]; omega)
   refine tail_value2 (o := _) rfl rfl rfl (run_appendOp (fr_ev k6_23) (fr_ev k6_25) ra7) ?_
   generalize hg7 : upd g6 26 (.slice (some ⟨ga7, 0, none⟩) ((rangeL (max least (n - off)) (min 3000 (x + 1 - 1))).length) (ca7)) = g7
   have k7_26 := kt hg7 26 (upd_same _ _ _)
   refine tail_value (o := _) rfl rfl rfl (v := .slice (some ⟨ga7, 0, none⟩) ((rangeL (max least (n - off)) (min 3000 (x + 1 - 1))).length) (ca7)) (by simp [go_sem, frv 28 k7_26]) ?_
   generalize hg8 : upd g7 7 (.slice (some ⟨ga7, 0, none⟩) ((rangeL (max least (n - off)) (min 3000 (x + 1 - 1))).length) (ca7)) = g8
   have k8_0 := ku hg8 0 (ku hg7 0 (kt hg6 0 k5_0))
   have k8_1 := ku hg8 1 (ku hg7 1 (kt hg6 1 k5_1))
   have k8_2 := ku hg8 2 (ku hg7 2 (kt hg6 2 k5_2))
   have k8_6 := ku hg8 6 (ku hg7 6 (kt hg6 6 k5_6))
   have k8_8 := ku hg8 8 (ku hg7 8 (kt hg6 8 k5_8))
   have k8_7 := kt hg8 7 (upd_same _ _ _)
   refine wpe ?_
   refine ibn ?_
   refine hK8 _ _ ?_
   refine ry 3 [(18, 0), (19, 1), (8, 2)] [[], [0], [0, 1]] (rel [iI x, iI (x + 1), iI (x + 1)])
    ⟨fun f s W d h i j l b => opm (b.v 8 ((j 2 8 rfl rfl).trans k8_8)),
  fun f s W d h i j l b => opv rfl rfl (by simp [go_sem, b.e 18 (h 0 rfl), IntWalk.i64_in (x + 1) (by omega)]) rfl,
  fun f s W d h i j l b => opm (b.v 19 (h 1 rfl)), trivial⟩ ?_
   intro f9 s9 W9 hB9 g9 hg9 z9
   have fB9 := hB9.f fB7
   have q7' := (ow7.below hB9.below)
   refine wpe ?_
   have k9_0 := kt hg9 0 k8_0
   have k9_1 := kt hg9 1 k8_1
   have k9_2 := kt hg9 2 k8_2
   have k9_6 := kt hg9 6 k8_6
   have k9_7 := kt hg9 7 k8_7
   have k9_8 := kt hg9 8 (hB9.is 2)
   refine then_normal ?_
   exact ⟨_, by omega, g9, rfl, x + 1, some ⟨ga7, 0, none⟩, ca7, rfl, k9_0, k9_1, k9_2, k9_6, k9_8.trans (by go_num), k9_7.trans (by go_num), fB9, (by omega), q7', (by omega), (by omega)⟩
  ·
   have hc10' := hc10; try simp only [ba] at hc10'
   refine wp_skip ?_
   refine ibn ?_
   refine hK8 _ _ ?_
   refine ry 3 [(18, 0), (19, 1), (8, 2)] [[], [0], [0, 1]] (rel [iI x, iI (x + 1), iI (x + 1)])
    ⟨fun f s W d h i j l b => opm (b.v 8 ((j 2 8 rfl rfl).trans k5_8)),
  fun f s W d h i j l b => opv rfl rfl (by simp [go_sem, b.e 18 (h 0 rfl), IntWalk.i64_in (x + 1) (by omega)]) rfl,
  fun f s W d h i j l b => opm (b.v 19 (h 1 rfl)), trivial⟩ ?_
   intro f10 s10 W10 hB10 g10 hg10 z10
   have fB10 := hB10.f fB5
   have q8' := (q5'.below hB10.below)
   refine wpe ?_
   have k10_0 := kt hg10 0 k5_0
   have k10_1 := kt hg10 1 k5_1
   have k10_2 := kt hg10 2 k5_2
   have k10_6 := kt hg10 6 k5_6
   have k10_7 := kt hg10 7 k5_7
   have k10_8 := kt hg10 8 (hB10.is 2)
   refine then_normal ?_
   exact ⟨_, by omega, g10, rfl, x + 1, a, cc, rfl, k10_0, k10_1, k10_2, k10_6, k10_8.trans (by go_num), (by rw [← around_miss lp0 hl hc10]; exact k10_7), fB10, (by omega), (by rw [← around_miss lp0 hl hc10]; exact q8'), (by omega), (by omega)⟩
 ·
  have hc7' := hc7; try simp only [ba] at hc7'
  refine wp_exit ?_
  refine then_exit ?_
  refine then_exit ?_
  refine inBlock_at ?_
  refine hK3 _ _ ?_
  refine rw_ 2 [(27, 0), (6, 1)] [[], [0]] (rel [is (.slice (a) ((rangeL (max least (n - off)) (min 3000 (x - 1))).length) (cc)), is (.slice (a) ((rangeL (max least (n - off)) (min 3000 (x - 1))).length) (cc))])
   ⟨fun f s W d h i j l b => opm (b.v 7 k4_7),
  fun f s W d h i j l b => opm (b.v 27 (h 0 rfl)), trivial⟩ ?_
  intro f11 s11 W11 hB11 g11 hg11 z11
  have fB11 := hB11.f fB4
  have q9' := (q4'.below hB11.below)
  have k11_6 := kt hg11 6 (hB11.is 1)
  refine wp_ret ?_
  refine leave_one (N := 28) (.inr rfl) Tryz.results55 rfl k11_6 ?_
  have hx : x = n + off + 1 := by omega
  subst hx
  have hA : rangeL (max least (n - off)) (min 3000 (n + off + 1 - 1)) = aroundL n off least := by rw [aroundL, show n + off + 1 - 1 = n + off from by omega]
  rw [hA] at q9'
  exact ⟨_, by rw [hA], ⟨_, _, rfl, q9'⟩, fB11⟩
theorem ovP_ow {xs ys : List Int} {fn : FuncId} {args : Array Value} {w : World} (e : xs = ys) (hne : 0 < ys.length) (h : Calls Tryz.prog fn args w (OvP xs w)) : Calls Tryz.prog fn args w (OwIP ys ys.length w) := by
  subst e
  refine h.mono fun e w' h => ?_
  obtain ⟨v, e1, ⟨a, c, e2, h1⟩, h2⟩ := h
  refine ⟨v, e1, ?_, h2⟩
  subst e2
  have h3 := h1.2.2
  rcases h3.2 with ⟨-, h4⟩ | ⟨g, cap, cur, h4, -⟩
  · omega
  · obtain ⟨rfl, -, -⟩ := Value.slice.inj h4
    exact ⟨g, c, rfl, (h1.2.1 _ rfl).1, (h1.2.1 _ rfl).2, h3⟩
open Go.RowKit
theorem Pp.lim {W : World} {a : Option Addr} {n c : Nat} {xs : List Sp} (h : Pp W a n c xs) : ∀ g o, a = some ⟨g, o, none⟩ → xs ≠ [] → g < W.heap.size := by
  intro g o e hne
  obtain ⟨b, off, e', hl, -⟩ := h.at (List.length_pos_iff.2 hne)
  rw [e] at e'
  cases e'
  exact hl
theorem Pp.len_le {W : World} {a : Option Addr} {n c : Nat} {xs : List Sp} (h : Pp W a n c xs) : (xs.length : Int) ≤ 9223372036854775807 := by
  have h1 := h.1; have h2 := h.2.1; have h3 := h.2.2.1
  unfold maxLen at h3
  omega
theorem Pp.at' {W : World} {a : Option Addr} {n c : Nat} {xs : List Sp} (h : Pp W a n c xs) (hne : 0 < xs.length) : ∃ b off, a = some ⟨b, off, none⟩ := by
  obtain ⟨b, off, e, -⟩ := h.at hne
  exact ⟨b, off, e⟩
open Go.RowKit
theorem inB_iff {n lo hi : Int} : inB n lo hi = true ↔ lo ≤ n ∧ n ≤ hi := by unfold inB; simp
open Go.RowKit
theorem may_blk {u : Value} {b : Bl} (v : Wi) (lo hi off : Int) (w : World) (hB : Blk w u b) : Calls Tryz.prog 31 #[u, .agg #[.int .i64 v.length.1, .int .i64 v.length.2, .int .i64 v.width.1, .int .i64 v.width.2, .int .i64 v.height.1, .int .i64 v.height.2, .int .i64 v.outer.1, .int .i64 v.outer.2, .int .i64 v.inner.1, .int .i64 v.inner.2, .bool v.isOpen], .agg #[.int .i64 lo, .int .i64 hi], .int .i64 off] w (fun e w' => e = .returned (.tuple #[.int .i64 (mayOf b v lo hi off).1, .int .i64 (mayOf b v lo hi off).2]) ∧ Below w.heap.size w w') := by
  obtain ⟨a1, n1, c1, a2, n2, c2, a3, n3, c3, rfl, h1, h2, h3⟩ := hB
  obtain rfl := h1.1; obtain rfl := h2.1; obtain rfl := h3.1
  obtain ⟨⟨l1, x1⟩, ⟨l2, x2⟩, ⟨l3, x3⟩, ⟨l4, x4⟩, ⟨l5, x5⟩, wo⟩ := v
  cases hz : (wishedErr b ⟨(l1, x1), (l2, x2), (l3, x3), (l4, x4), (l5, x5), wo⟩ [(lo, hi)] != 0) with
  | true => exact may_bad a1 a2 a3 c1 c2 c3 b l1 x1 l2 x2 l3 x3 l4 x4 l5 x5 lo hi off wo w h1 h2 h3 fun h => by rw [hz] at h; cases h
  | false =>
    cases hof : (!(within 0 5 [off])) with
    | true => exact may_bad a1 a2 a3 c1 c2 c3 b l1 x1 l2 x2 l3 x3 l4 x4 l5 x5 lo hi off wo w h1 h2 h3 fun _ => hof
    | false =>
      have hE := bne_eq_false_iff_eq.1 hz
      obtain ⟨hck, hxw⟩ := wished_parts hE
      have hw := wish_in hxw
      obtain ⟨s1, s2, s3⟩ := isSpan_iff.1 (wished_span hE)
      have hio : inB off 0 5 = true := by rw [within_one] at hof; simpa using hof
      obtain ⟨o1, o2⟩ := inB_iff.1 hio
      obtain ⟨⟨hl1, hl2, hl3⟩, -, ⟨gs1, gs2⟩, ⟨gh1, gh2⟩, ⟨gp0, gp1, gp2, gp3⟩, gt0, gt1, gu0, gu1⟩ := good_nums hck
      obtain ⟨tab, panels, hh, top, bottom, sl, op⟩ := b
      obtain ⟨p0, p1, p2, p3, rfl⟩ := list_four hl1
      obtain ⟨t0, t1, rfl⟩ := list_two hl2
      obtain ⟨u0, u1, rfl⟩ := list_two hl3
      simp only [List.getD_cons_zero, List.getD_cons_succ] at gp0 gp1 gp2 gp3 gt0 gt1 gu0 gu1 gs1 gs2 gh1 gh2
      obtain ⟨q1, r1, rfl, -⟩ := h1.at (by simp)
      obtain ⟨q2, r2, rfl, -⟩ := h2.at (by simp)
      obtain ⟨q3, r3, rfl, -⟩ := h3.at (by simp)
      have hpp : ∀ x ∈ [p0, p1, p2, p3], 1 ≤ x ∧ x ≤ 3000 := by simp only [List.mem_cons, List.not_mem_nil, or_false]; intro x hx; rcases hx with rfl | rfl | rfl | rfl <;> assumption
      cases op <;> cases wo
      · exact may_false l1 x1 l2 x2 l3 x3 l4 x4 l5 x5 lo hi off false p0 p1 p2 p3 u0 u1 t0 t1 tab hh sl q1 r1 c1 q3 r3 c3 q2 r2 c2 w hw h1 h3 h2 hpp gu0.1 gu0.2 gu1.1 gu1.2 gt0.1 gt0.2 gt1.1 gt1.2 s1 s3 o1 o2 gh1 gh2 gs1 gs2 hz hof rfl
      · exact may_ne l1 x1 l2 x2 l3 x3 l4 x4 l5 x5 lo hi off true false p0 p1 p2 p3 u0 u1 t0 t1 tab hh sl q1 r1 c1 q3 r3 c3 q2 r2 c2 w hw h1 h3 h2 hpp gu0.1 gu0.2 gu1.1 gu1.2 gt0.1 gt0.2 gt1.1 gt1.2 s1 s3 o1 o2 gh1 gh2 gs1 gs2 hz hof rfl
      · exact may_ne l1 x1 l2 x2 l3 x3 l4 x4 l5 x5 lo hi off false true p0 p1 p2 p3 u0 u1 t0 t1 tab hh sl q1 r1 c1 q3 r3 c3 q2 r2 c2 w hw h1 h3 h2 hpp gu0.1 gu0.2 gu1.1 gu1.2 gt0.1 gt0.2 gt1.1 gt1.2 s1 s3 o1 o2 gh1 gh2 gs1 gs2 hz hof rfl
      · exact may_true l1 x1 l2 x2 l3 x3 l4 x4 l5 x5 lo hi off true p0 p1 p2 p3 u0 u1 t0 t1 tab hh sl q1 r1 c1 q3 r3 c3 q2 r2 c2 w hw h1 h3 h2 hpp gu0.1 gu0.2 gu1.1 gu1.2 gt0.1 gt0.2 gt1.1 gt1.2 s1 s3 o1 o2 gh1 gh2 gs1 gs2 hz hof rfl
theorem mayOf_e1 {b : Bl} {v : Wi} {lo hi off E : Int} (hE : wishedErr b v [(lo, hi)] = E) (hn : (E != 0) = true) : mayOf b v lo hi off = (0, E) := by
  unfold mayOf; rw [hE, if_pos hn]
theorem mayOf_e2 {b : Bl} {v : Wi} {lo hi off : Int} (hE : wishedErr b v [(lo, hi)] = 0) (ho : inB off 0 5 = false) : mayOf b v lo hi off = (0, 7) := by
  unfold mayOf; rw [hE, if_neg (by decide), if_pos (by rw [within_one, ho]; rfl)]
theorem mayOf_e3 {b : Bl} {v : Wi} {lo hi off : Int} (hE : wishedErr b v [(lo, hi)] = 0) (ho : inB off 0 5 = true) : mayOf b v lo hi off = mayFrom (closesOf b v off) (hi + 1 - lo).toNat lo := by
  unfold mayOf; rw [hE, if_neg (by decide), if_neg (by rw [within_one, ho]; decide)]
theorem good_small {b : Bl} (h : checkErr b = 0) : largeB b = false := by
  obtain ⟨⟨hl1, hl2, hl3⟩, -⟩ := good_nums h
  unfold largeB; rw [hl1, hl2, hl3]; rfl
open Go.RowKit
section
variable {P : Program} {ops : Array Oper} {Q : Exit → Act → World → Prop}
structure BehindL (Le : World → World → Prop) (R : Nat → Value → (Nat → Nat) → World → Prop) (w : World) (n : Nat) (f : Nat → Value) (s : Nat → Nat) (W : World) : Prop where
  le : Le w W
  told : ∀ i, i < n → R i (f i) s W
  from' : ∀ i, i < n → w.heap.size ≤ s i
  apart : ∃ t : Nat → Nat, (∀ i, i < n → s i ≤ t i ∧ t i ≤ W.heap.size ∧ ∃ Wi : World, R i (f i) s Wi ∧ Wi.heap.size = t i) ∧ ∀ i j, i < n → j < n → i ≠ j → t i ≤ s j ∨ t j ≤ s i
theorem BehindL.is {Le : World → World → Prop} {l : List Rl} {w : World} {n : Nat} {f : Nat → Value} {s : Nat → Nat} {W : World} (h : BehindL Le (rel l) w n f s W) (i : Nat) (hi : decide (i < n) = true := by rfl) : rel l i (f i) s W := h.told i (of_decide_eq_true hi)
theorem BehindL.two {Le : World → World → Prop} {R : Nat → Value → (Nat → Nat) → World → Prop} {w : World} {n : Nat} {f : Nat → Value} {s : Nat → Nat} {W : World} (h : BehindL Le R w n f s W) (i j : Nat) (hi : i < n) (hj : j < n) (hij : i ≠ j) {g g' : Nat}
    (hg : s i ≤ g) (hg' : s j ≤ g') (h1 : ∀ W, R i (f i) s W → g < W.heap.size) (h2 : ∀ W, R j (f j) s W → g' < W.heap.size) : g ≠ g' := by
  obtain ⟨t, ht, hd⟩ := h.apart
  obtain ⟨a, b, W1, r1, z1⟩ := ht i hi
  obtain ⟨c, d, W2, r2, z2⟩ := ht j hj
  have := h1 _ r1; have := h2 _ r2
  have := hd i j hi hj hij
  omega
end
structure LeX (S : Nat → Prop) (Ps : List (World → Prop)) (a b : World) : Prop where
  os : b.os = a.os
  tape : b.tape = a.tape
  output : b.output = a.output
  size : a.heap.size ≤ b.heap.size
  block : ∀ k, k < a.heap.size → ¬ S k → b.heap[k]? = a.heap[k]?
  stay : ∀ p ∈ Ps, p a → p b
section
variable {S : Nat → Prop} {Ps : List (World → Prop)}
theorem LeX.refl (a : World) : LeX S Ps a a := ⟨rfl, rfl, rfl, Nat.le_refl _, fun _ _ _ => rfl, fun _ _ h => h⟩
theorem LeX.trans (a b c : World) (h : LeX S Ps a b) (k : LeX S Ps b c) : LeX S Ps a c :=
  ⟨k.os.trans h.os, k.tape.trans h.tape, k.output.trans h.output, Nat.le_trans h.size k.size, fun i hi hn => (k.block i (Nat.lt_of_lt_of_le hi h.size) hn).trans (h.block i hi hn), fun p hp hx => k.stay p hp (h.stay p hp hx)⟩
theorem LeX.below {a b : World} (h : LeX S Ps a b) {B : Nat} (hB : B ≤ a.heap.size) (hS : ∀ k, S k → B ≤ k) : Below B a b :=
  ⟨h.os, h.tape, h.output, h.size, fun k hk => h.block k (by omega) fun e => by have := hS k e; omega⟩
end
abbrev Ro (B : Nat) (xs : List Int) (a : Option Addr) (c : Nat) (W : World) : Prop := OwnV 3 1 B (iis xs) xs.length a c W
theorem Ro.mk {B : Nat} {xs : List Int} {g c : Nat} {W : World} {cur : Array Value} (hB : B ≤ g) (h : W.heap[g]? = some (.cells cur 3 (0, 0))) (h1 : xs.length ≤ c) (h2 : c ≤ maxLen) (h3 : cur.size = c) (h4 : cur.toList.take xs.length = iis xs) : Ro B xs (some ⟨g, 0, none⟩) c W := by
  have hl := ltb h
  exact ⟨by omega, fun x e => by cases e; exact ⟨hB, hl⟩, by simp [iis], .inr ⟨g, c, cur, rfl, hB, h, h1, h2, by simpa using h3, by simpa using h4⟩⟩
theorem Ro.below {B : Nat} {xs : List Int} {a : Option Addr} {c : Nat} {W W' : World} (h : Ro B xs a c W) (hb : Below W.heap.size W W') : Ro B xs a c W' := OwnV.below h hb
open Go.RowKit
def TyBlk (B : Nat) (b : Bl) (v : Value) (W : World) : Prop :=
  ∃ g1 c1 g2 c2 g3 c3, v = .agg #[.int .i64 b.tab, .slice (some ⟨g1, 0, none⟩) b.panels.length c1, .int .i64 b.height, .slice (some ⟨g2, 0, none⟩) b.top.length c2, .slice (some ⟨g3, 0, none⟩) b.bottom.length c3, .int .i64 b.slot, .bool b.isOpen] ∧
    OwnI B b.panels g1 c1 W ∧ OwnI B b.top g2 c2 W ∧ OwnI B b.bottom g3 c3 W
theorem TyBlk.below {B : Nat} {b : Bl} {v : Value} {W W' : World} (h : TyBlk B b v W) (hb : Below W.heap.size W W') : TyBlk B b v W' := by
  obtain ⟨g1, c1, g2, c2, g3, c3, e, h1, h2, h3⟩ := h
  exact ⟨g1, c1, g2, c2, g3, c3, e, h1.below hb, h2.below hb, h3.below hb⟩
theorem TyBlk.low {B B' : Nat} {b : Bl} {v : Value} {W : World} (h : TyBlk B b v W) (hB : B' ≤ B) : TyBlk B' b v W := by
  obtain ⟨g1, c1, g2, c2, g3, c3, e, h1, h2, h3⟩ := h
  exact ⟨g1, c1, g2, c2, g3, c3, e, h1.low hB, h2.low hB, h3.low hB⟩
open Go.RowKit
structure Sh where
  x0 : Int
  x1 : Int
  x2 : Int
  x3 : Int
  xh : Int
  y0 : Int
  y1 : Int
  y2 : Int
  y3 : Int
  xo : Bool
  ca : Int
  cb : Int
  v0 : Int
  v1 : Int
  v2 : Int
  v3 : Int
  v4 : Int
open Go.RowKit
def BlkN (b : Bl) (n1 n2 n3 : Nat) (v : Value) (W : World) : Prop :=
  ∃ a1 c1 a2 c2 a3 c3, v = .agg #[.int .i64 b.tab, .slice a1 n1 c1, .int .i64 b.height, .slice a2 n2 c2, .slice a3 n3 c3, .int .i64 b.slot, .bool b.isOpen] ∧ Ii W a1 n1 c1 b.panels ∧ Ii W a2 n2 c2 b.top ∧ Ii W a3 n3 c3 b.bottom
theorem BlkN.below {b : Bl} {n1 n2 n3 : Nat} {v : Value} {W W' : World} (h : BlkN b n1 n2 n3 v W) (hb : Below W.heap.size W W') : BlkN b n1 n2 n3 v W' := by
  obtain ⟨a1, c1, a2, c2, a3, c3, e, h1, h2, h3⟩ := h
  exact ⟨a1, c1, a2, c2, a3, c3, e, h1.below hb (Nat.le_refl _), h2.below hb (Nat.le_refl _), h3.below hb (Nat.le_refl _)⟩
open Go.RowKit
theorem osure {P : Program} {ops : Array Oper} {Q : Exit → Act → World → Prop} {i j : Nat} {want : Bool} {a : Act} {W : World} {r : Value → World → Prop} {o : Oper} (ho : ops[i]? = some o) (hg : o.guard = some (j, want)) (hy : yielded ops a.tmps j = some want)
    (h : ∀ K : Act → World → Prop, (∀ v W', Below W.heap.size W W' → r v W' → K (a.put o.dst v) W') → o.wp P a W K Q) : OpDo P ops Q i a W r := by
  intro K hK
  unfold wpOp
  simp only [ho, Region.wanted, hg, hy]
  rw [ho] at hK
  rw [if_pos (by simp)]
  exact .inl (h K hK)
open Go.RowKit
structure LeT (B : Nat) (T : TypeId) (G : Array Value → World → Prop) (a b : World) : Prop where
  os : b.os = a.os
  tape : b.tape = a.tape
  output : b.output = a.output
  size : a.heap.size ≤ b.heap.size
  block : ∀ k x, a.heap[k]? = some x → (k < B ∨ ∀ cs, x ≠ .cells cs T (0, 0)) → b.heap[k]? = some x
  kind : ∀ k cs, B ≤ k → a.heap[k]? = some (.cells cs T (0, 0)) → ∃ cs', b.heap[k]? = some (.cells cs' T (0, 0)) ∧ cs'.size = cs.size ∧ (G cs a → G cs' b)
section
variable {B : Nat} {T : TypeId} {G : Array Value → World → Prop}
theorem LeT.refl (a : World) : LeT B T G a a := ⟨rfl, rfl, rfl, Nat.le_refl _, fun _ _ h _ => h, fun _ cs _ h => ⟨cs, h, rfl, fun g => g⟩⟩
theorem LeT.trans (a b c : World) (h : LeT B T G a b) (k : LeT B T G b c) : LeT B T G a c :=
  ⟨k.os.trans h.os, k.tape.trans h.tape, k.output.trans h.output, Nat.le_trans h.size k.size, fun i x hx hn => k.block i x (h.block i x hx hn) hn, fun i cs hi hx => by
    obtain ⟨cs1, h1, h2, h3⟩ := h.kind i cs hi hx
    obtain ⟨cs2, h4, h5, h6⟩ := k.kind i cs1 hi h1
    exact ⟨cs2, h4, h5.trans h2, fun g => h6 (h3 g)⟩⟩
theorem LeT.below {a b : World} (h : LeT B T G a b) (hB : B ≤ a.heap.size) : Below B a b :=
  ⟨h.os, h.tape, h.output, h.size, fun k hk => by
    have hx : a.heap[k]? = some a.heap[k] := Array.getElem?_eq_getElem (by omega)
    rw [hx]; exact h.block k _ hx (.inl hk)⟩
end
section
variable {P : Program} {ops : Array Oper} {Q : Exit → Act → World → Prop}
end
open Go.RowKit
theorem copy_ow (a1 a2 a3 : Option Addr) (c1 c2 c3 : Nat) (b : Bl) (w : World) (h1 : Ii w a1 b.panels.length c1 b.panels) (h2 : Ii w a2 b.top.length c2 b.top) (h3 : Ii w a3 b.bottom.length c3 b.bottom) (hck : checkErr b = 0) : Calls Tryz.prog 48 #[.agg #[.int .i64 b.tab, .slice a1 (b.panels.length) c1, .int .i64 b.height, .slice a2 (b.top.length) c2, .slice a3 (b.bottom.length) c3, .int .i64 b.slot, .bool b.isOpen]] w (OwBlkP b w) := by
  obtain ⟨⟨hl1, hl2, hl3⟩, -, -, gh, ⟨gp0, gp1, gp2, gp3⟩, gt0, gt1, gu0, gu1⟩ := good_nums hck
  obtain ⟨tab, panels, hh, top, bottom, sl, op⟩ := b
  obtain ⟨p0, p1, p2, p3, rfl⟩ := list_four hl1
  obtain ⟨t0, t1, rfl⟩ := list_two hl2
  obtain ⟨u0, u1, rfl⟩ := list_two hl3
  simp only [List.getD_cons_zero, List.getD_cons_succ] at gp0 gp1 gp2 gp3 gt0 gt1 gu0 gu1
  have gh : 1 ≤ hh ∧ hh ≤ 3000 := gh
  exact copy_own a1 a2 a3 c1 c2 c3 tab p0 p1 p2 p3 hh t0 t1 u0 u1 sl op w h1 h2 h3
theorem holdsR_blk {v : Value} {b : Bl} (vi : Wi) (k : Nat) (ki cal : Int) (w : World) (hB : Blk w v b) (hck : checkErr b = 0) (hw : WishIn vi) (gcl : 0 ≤ cal ∧ cal ≤ 100000) (hk : k < 10) (hki : ki = (k : Int)) : Calls Tryz.prog 65 #[v, .agg #[.int .i64 vi.length.1, .int .i64 vi.length.2, .int .i64 vi.width.1, .int .i64 vi.width.2, .int .i64 vi.height.1, .int .i64 vi.height.2, .int .i64 vi.outer.1, .int .i64 vi.outer.2, .int .i64 vi.inner.1, .int .i64 vi.inner.2, .bool vi.isOpen], .int .i64 ki, .int .i64 cal] w (fun e w' => e = .returned (.bool (holdsR b vi k cal)) ∧ Below w.heap.size w w') := by
  subst hki
  obtain ⟨a1, n1, c1, a2, n2, c2, a3, n3, c3, rfl, h1, h2, h3⟩ := hB
  obtain rfl := h1.1; obtain rfl := h2.1; obtain rfl := h3.1
  exact holdsR_any a1 a2 a3 c1 c2 c3 b vi.length.1 vi.length.2 vi.width.1 vi.width.2 vi.height.1 vi.height.2 vi.outer.1 vi.outer.2 vi.inner.1 vi.inner.2 vi.isOpen k cal w h1 h2 h3 hck hw gcl hk
def setB (b : Bl) (k : Nat) (f : Int) : Bl := { b with bottom := b.bottom.set k f }
def setT (b : Bl) (k : Nat) (f : Int) : Bl := { b with top := b.top.set k f }
theorem setB_ok {b : Bl} (hck : checkErr b = 0) {k : Nat} (hk : k < 2) {f : Int} (h1 : 0 ≤ f) (h2 : f ≤ 3000) : checkErr (setB b k f) = 0 := by
  have hop : b.isOpen = true → b.top.getD 0 0 = 0 ∧ b.top.getD 1 0 = 0 := open_top hck
  have gn := good_nums hck
  obtain ⟨-, gt, gs, -⟩ := gn
  obtain ⟨⟨hl1, hl2, hl3⟩, -, -, gh, ⟨gp0, gp1, gp2, gp3⟩, gt0, gt1, gu0, gu1⟩ := good_nums hck
  obtain ⟨tab, panels, hh, top, bottom, sl, op⟩ := b
  obtain ⟨p0, p1, p2, p3, rfl⟩ := list_four hl1
  obtain ⟨t0, t1, rfl⟩ := list_two hl2
  obtain ⟨u0, u1, rfl⟩ := list_two hl3
  simp only [List.getD_cons_zero, List.getD_cons_succ] at gp0 gp1 gp2 gp3 gt0 gt1 gu0 gu1
  have gh : 1 ≤ hh ∧ hh ≤ 3000 := gh
  simp only [List.getD_cons_zero, List.getD_cons_succ] at hop
  match k, hk with
  | 0, _ => exact check_lit gt gs gh gp0 gp1 gp2 gp3 gt0 gt1 ⟨h1, h2⟩ gu1 hop
  | 1, _ => exact check_lit gt gs gh gp0 gp1 gp2 gp3 gt0 gt1 gu0 ⟨h1, h2⟩ hop
theorem setT_ok {b : Bl} (hck : checkErr b = 0) {k : Nat} (hk : k < 2) {f : Int} (h1 : 0 ≤ f) (h2 : f ≤ 3000) (ho : b.isOpen = false) : checkErr (setT b k f) = 0 := by
  have gn := good_nums hck
  obtain ⟨-, gt, gs, -⟩ := gn
  obtain ⟨⟨hl1, hl2, hl3⟩, -, -, gh, ⟨gp0, gp1, gp2, gp3⟩, gt0, gt1, gu0, gu1⟩ := good_nums hck
  obtain ⟨tab, panels, hh, top, bottom, sl, op⟩ := b
  obtain ⟨p0, p1, p2, p3, rfl⟩ := list_four hl1
  obtain ⟨t0, t1, rfl⟩ := list_two hl2
  obtain ⟨u0, u1, rfl⟩ := list_two hl3
  simp only [List.getD_cons_zero, List.getD_cons_succ] at gp0 gp1 gp2 gp3 gt0 gt1 gu0 gu1
  have gh : 1 ≤ hh ∧ hh ≤ 3000 := gh
  have hop : op = true → False := fun e => by rw [show op = false from ho] at e; cases e
  match k, hk with
  | 0, _ => exact check_lit gt gs gh gp0 gp1 gp2 gp3 ⟨h1, h2⟩ gt1 gu0 gu1 fun e => (hop e).elim
  | 1, _ => exact check_lit gt gs gh gp0 gp1 gp2 gp3 gt0 ⟨h1, h2⟩ gu0 gu1 fun e => (hop e).elim
theorem hold_bot (b : Bl) (w : Wi) {k : Nat} (hk : k < 2) (f c : Int) (hl : b.bottom.length = 2) : holdsR (setB b k f) w (7 + k) c = fitsR ((1000 * b.panels.getD (1 - k) 0 - c - 1000 * f) - 1000 * f) (if k = 0 then w.outer.1 else w.inner.1) (if k = 0 then w.outer.2 else w.inner.2) := by
  obtain ⟨tab, panels, hh, top, bottom, sl, op⟩ := b
  obtain ⟨u0, u1, rfl⟩ := list_two hl
  match k, hk with
  | 0, _ => rfl
  | 1, _ => rfl
theorem hold_top (b : Bl) (w : Wi) {k : Nat} (hk : k < 2) (f c : Int) (hl : b.top.length = 2) (ho : b.isOpen = false) (hwo : w.isOpen = false) : holdsR (setT b k f) w (5 + k) c = fitsR ((1000 * b.panels.getD (1 - k) 0 - c - 1000 * f) - 1000 * f) (if k = 0 then w.outer.1 else w.inner.1) (if k = 0 then w.outer.2 else w.inner.2) := by
  obtain ⟨tab, panels, hh, top, bottom, sl, op⟩ := b
  obtain ⟨u0, u1, rfl⟩ := list_two hl
  simp only at ho
  subst ho
  match k, hk with
  | 0, _ => show (if (false || w.isOpen) = true then _ else _) = _; rw [hwo]; rfl
  | 1, _ => show ((false || w.isOpen) || _) = _; rw [hwo]; rfl
theorem set_self {xs : List Int} {k : Nat} : xs.set k (xs.getD k 0) = xs := by
  apply List.ext_getElem
  · simp
  · intro i h1 h2
    by_cases e : k = i
    · subst e; simp [List.getD_eq_getElem?_getD, h2]
    · simp [e]
end Go.Proofs.YthnediamopehfaaGreat
