/- Part of the proof: what the claim leans on. -/
import Derived.Test.YtnhipdbdolabkaaKAE
import Derived.Shelf.Small.Bits
import Derived.Shelf.Small.Wraps
import Derived.Shelf.Strconv.Itoa0
import Derived.Shelf.Sort.Plain
import Derived.Shelf.Slices.Turned
import Derived.Ground.Names2Prog
import Derived.Shelf.Slices.Clone
import Derived.Shelf.Slices.CompactI
import Derived.Shelf.Slices.SearchI
import Derived.Shelf.Slices.Cells
import Derived.Shelf.Slices.In.SortNone
import Derived.Test.YtnhipdbdolabkaaProg
set_option linter.unusedSimpArgs false
set_option linter.unusedVariables false
namespace Go.Proofs.Ytnhipdbdolabkaa
open Go.RowKit
def acrossOf (b : Bl) : Int := b.tab + b.panels.getD 0 0 + b.panels.getD 1 0 + b.panels.getD 2 0 + b.panels.getD 3 0
def topOf (b : Bl) : Int := max (b.top.getD 0 0) (b.top.getD 1 0)
def alongOf (b : Bl) : Int := topOf b + b.height + max (b.bottom.getD 0 0) (b.bottom.getD 1 0)
/-- What Size leaves. -/
def SizeP (b : Bl) (w : World) (e : Ending) (w' : World) : Prop :=
  e = .returned (.tuple (if checkErr b = 0 then #[.int .i64 (acrossOf b), .int .i64 (alongOf b), .int .i64 (acrossOf b * alongOf b), .int .i64 0] else #[.int .i64 0, .int .i64 0, .int .i64 0, .int .i64 (checkErr b)])) ∧ Below w.heap.size w w'
set_option maxRecDepth 100000 in
set_option maxHeartbeats 4000000 in
theorem size_any (v : Value) (b : Bl) (w : World) (hB : Blk w v b) : Calls Try.prog 26 #[v] w (SizeP b w) := by
  obtain ⟨a1, n1, c1, a2, n2, c2, a3, n3, c3, rfl, h1, h2, h3⟩ := hB
  by_cases z : checkErr b = 0
  case neg =>
    have C := Lib.hid (check_any _ b (w.alloc (.cells #[.int .i64 b.tab, .slice a1 n1 c1, .int .i64 b.height, .slice a2 n2 c2, .slice a3 n3 c3, .int .i64 b.slot, .bool b.isOpen] 57)) ⟨a1, n1, c1, a2, n2, c2, a3, n3, c3, rfl, h1.below (balloc1 w _) (Nat.le_refl _), h2.below (balloc1 w _) (Nat.le_refl _), h3.below (balloc1 w _) (Nat.le_refl _)⟩)
    have z' : (checkErr b != 0) = true := by rw [bne_iff_ne]; exact z
    have Z := Lib.hid z
    clear h1 h2 h3 z
    generalize hx : checkErr b = x at *
    go_enter Try.func26, Try.ntmps26
    go_wp2_with ((with_reducible refine (C.out).mono ?_); rintro e w1 ⟨rfl, hb1⟩)
    exact bodyPost_ret (v := .tuple #[.int .i64 0, .int .i64 0, .int .i64 0, .int .i64 x]) (by simp [results, Try.results26, go_sem]) rfl ⟨by rw [hx, if_neg Z.out], bnext (balloc1 _ _) hb1⟩
  have C := Lib.hid (check_any _ b (w.alloc (.cells #[.int .i64 b.tab, .slice a1 n1 c1, .int .i64 b.height, .slice a2 n2 c2, .slice a3 n3 c3, .int .i64 b.slot, .bool b.isOpen] 57)) ⟨a1, n1, c1, a2, n2, c2, a3, n3, c3, rfl, h1.below (balloc1 w _) (Nat.le_refl _), h2.below (balloc1 w _) (Nat.le_refl _), h3.below (balloc1 w _) (Nat.le_refl _)⟩)
  rw [z] at C
  obtain ⟨hF, htab, -, -, -, -⟩ := fine_of_check z
  obtain ⟨tab, panels, h, top, bottom, slot, op⟩ := b
  obtain ⟨p0, p1, p2, p3, t0, t1, u0, u1, e1, e2, e3, r0, r1, r2, r3, s0, s1, q0, q1, rh⟩ := hF
  simp only at e1 e2 e3 h1 h2 h3 rh htab
  subst e1 e2 e3
  obtain rfl : n1 = 4 := h1.1
  obtain rfl : n2 = 2 := h2.1
  obtain rfl : n3 = 2 := h3.1
  obtain ⟨b1, o1, rfl, l1, k1⟩ := h1.at (by simp)
  obtain ⟨b2, o2, rfl, l2, k2⟩ := h2.at (by simp)
  obtain ⟨b3, o3, rfl, l3, k3⟩ := h3.at (by simp)
  have Z := Lib.hid z; have H2 := Lib.hid h2; have H3 := Lib.hid h3; have K1 := Lib.hid k1
  have hw0 := balloc1 w (.cells #[.int .i64 tab, .slice (some ⟨b1, o1, none⟩) 4 c1, .int .i64 h, .slice (some ⟨b2, o2, none⟩) 2 c2, .slice (some ⟨b3, o3, none⟩) 2 c3, .int .i64 slot, .bool op] 57)
  have R := Lib.hid (And.intro htab (And.intro r0 (And.intro r1 (And.intro r2 r3))))
  clear z h1 h2 h3 k1 k2 k3
  have wp : ∀ i, i < 4 → w.cell? ⟨b1, o1 + i, none⟩ = some (.int .i64 ([p0, p1, p2, p3].getD i 0)) := K1.out
  go_enter Try.func26, Try.ntmps26
  go_wp2_with ((with_reducible refine (C.out).mono ?_); rintro e w1 ⟨rfl, hb1⟩; have hc1 := box_cell hb1)
  have hB1 : Below w.heap.size w w1 := bnext hw0 hb1
  have x0 := (hB1.cell (p := ⟨b1, o1 + 0, none⟩) l1).trans (wp 0 (by omega))
  have x1 := (hB1.cell (p := ⟨b1, o1 + 1, none⟩) l1).trans (wp 1 (by omega))
  have x2 := (hB1.cell (p := ⟨b1, o1 + 2, none⟩) l1).trans (wp 2 (by omega))
  have x3 := (hB1.cell (p := ⟨b1, o1 + 3, none⟩) l1).trans (wp 3 (by omega))
  simp only [Nat.add_zero, List.getD_cons_zero, List.getD_cons_succ] at x0 x1 x2 x3
  have M2 := Lib.hid (H2.out.below hB1 (Nat.le_refl _)); have M3 := Lib.hid (H3.out.below hB1 (Nat.le_refl _))
  clear wp
  refine wp_loop_rounds 5 ?_
  rw [rounds_succ]
  go_wp2
  rw [rounds_succ]
  go_wp2
  rw [rounds_succ]
  go_wp2
  rw [rounds_succ]
  go_wp2
  rw [rounds_succ]
  have y2 := hc1 2; have y3 := hc1 3; have y4 := hc1 4
  simp only [List.getElem?_toArray, List.getElem?_cons_succ, List.getElem?_cons_zero] at y2 y3 y4
  clear x0 x1 x2 x3 hc1
  have mt : 0 ≤ max t0 t1 ∧ max t0 t1 ≤ 3000 := by simp only [Int.max_def]; split <;> omega
  have mu : 0 ≤ max u0 u1 ∧ max u0 u1 ≤ 3000 := by simp only [Int.max_def]; split <;> omega
  have ht := Lib.hid (rfl : max t0 t1 = max t0 t1)
  generalize hmt : max t0 t1 = mt' at *
  generalize hmu : max u0 u1 = mu' at *
  have HMT := Lib.hid hmt; have HMU := Lib.hid hmu
  clear hmt hmu ht
  have wr1 : IntKind.i64.wrap (mt' + h) = mt' + h := IntWalk.i64_in _ (by omega)
  have wr2 : IntKind.i64.wrap (mt' + h + mu') = mt' + h + mu' := IntWalk.i64_in _ (by omega)
  go_wp2_with fail
  go_region_held3 (fun w' => w'.cell? ⟨w.heap.size, 2, none⟩ = some (.int .i64 h) ∧ w'.cell? ⟨w.heap.size, 3, none⟩ = some (.slice (some ⟨b2, o2, none⟩) 2 c2) ∧ w'.cell? ⟨w.heap.size, 4, none⟩ = some (.slice (some ⟨b3, o3, none⟩) 2 c3)) (go_keep)
    (first
      | (go_at_call 35; (with_reducible refine (max_two t0 t1 _ _ _ (M2.out.below (by repeat (first | exact Below.refl _ _ | assumption | apply Below.drew | (refine balloc ?_ _))) (Nat.le_refl _))).mono ?_); rintro e w' ⟨rfl, rfl⟩; rw [HMT.out])
      | (go_at_call 35; (with_reducible refine (max_two u0 u1 _ _ _ (M3.out.below (by repeat (first | exact Below.refl _ _ | assumption | apply Below.drew | (refine balloc ?_ _))) (Nat.le_refl _))).mono ?_); rintro e w' ⟨rfl, rfl⟩; rw [HMU.out]))
  have hm1 : 0 ≤ (tab + p0 + p1 + p2 + p3) * (mt' + h + mu') := Int.mul_nonneg (by omega) (by omega)
  have hm2 : (tab + p0 + p1 + p2 + p3) * (mt' + h + mu') ≤ 20000 * 20000 := Int.mul_le_mul (by omega) (by omega) (by omega) (by omega)
  clear wr1 wr2 y2 y3 y4
  go_wp2
  refine bodyPost_ret (v := .tuple #[.int .i64 (tab + p0 + p1 + p2 + p3), .int .i64 (mt' + h + mu'), .int .i64 ((tab + p0 + p1 + p2 + p3) * (mt' + h + mu')), .int .i64 0]) (by simp [results, Try.results26, go_sem]) rfl ⟨?_, hB1.drew⟩
  rw [if_pos Z.out]
  simp only [acrossOf, alongOf, topOf, List.getD_cons_zero, List.getD_cons_succ, HMT.out, HMU.out]
def scoresOf (b : Bl) : List Int := [b.tab, b.tab + b.panels.getD 0 0, b.tab + b.panels.getD 0 0 + b.panels.getD 1 0, b.tab + b.panels.getD 0 0 + b.panels.getD 1 0 + b.panels.getD 2 0]
theorem ii_nil (w : World) : Ii w none 0 0 [] := ⟨rfl, Nat.le_refl _, by unfold maxLen; omega, by simp, .inl rfl⟩
/-- What Scores leaves. -/
def ScoresP (b : Bl) (w : World) (e : Ending) (w' : World) : Prop :=
  ∃ a n c a' n' c', e = .returned (.tuple #[.slice a n c, .slice a' n' c', .int .i64 (checkErr b)]) ∧ Ii w' a n c (if checkErr b = 0 then scoresOf b else []) ∧ Ii w' a' n' c' (if checkErr b = 0 then [topOf b, topOf b + b.height] else []) ∧ Below w.heap.size w w'
set_option maxRecDepth 100000 in
set_option maxHeartbeats 8000000 in
theorem scores_any (v : Value) (b : Bl) (w : World) (hB : Blk w v b) : Calls Try.prog 17 #[v] w (ScoresP b w) := by
  obtain ⟨a1, n1, c1, a2, n2, c2, a3, n3, c3, rfl, h1, h2, h3⟩ := hB
  by_cases z : checkErr b = 0
  case neg =>
    have C := Lib.hid (check_any _ b (w.alloc (.cells #[.int .i64 b.tab, .slice a1 n1 c1, .int .i64 b.height, .slice a2 n2 c2, .slice a3 n3 c3, .int .i64 b.slot, .bool b.isOpen] 57)) ⟨a1, n1, c1, a2, n2, c2, a3, n3, c3, rfl, h1.below (balloc1 w _) (Nat.le_refl _), h2.below (balloc1 w _) (Nat.le_refl _), h3.below (balloc1 w _) (Nat.le_refl _)⟩)
    have z' : (checkErr b != 0) = true := by rw [bne_iff_ne]; exact z
    have Z := Lib.hid z
    clear h1 h2 h3 z
    generalize hx : checkErr b = x at *
    go_enter Try.func17, Try.ntmps17
    go_wp2_with ((with_reducible refine (C.out).mono ?_); rintro e w1 ⟨rfl, hb1⟩)
    go_ret3
    exact ⟨none, 0, 0, none, 0, 0, by rw [hx]; rfl, by rw [hx, if_neg Z.out]; exact ii_nil _, by rw [hx, if_neg Z.out]; exact ii_nil _, bnext (balloc1 _ _) hb1⟩
  have C := Lib.hid (check_any _ b (w.alloc (.cells #[.int .i64 b.tab, .slice a1 n1 c1, .int .i64 b.height, .slice a2 n2 c2, .slice a3 n3 c3, .int .i64 b.slot, .bool b.isOpen] 57)) ⟨a1, n1, c1, a2, n2, c2, a3, n3, c3, rfl, h1.below (balloc1 w _) (Nat.le_refl _), h2.below (balloc1 w _) (Nat.le_refl _), h3.below (balloc1 w _) (Nat.le_refl _)⟩)
  rw [z] at C
  obtain ⟨hF, htab, -, -, -, -⟩ := fine_of_check z
  obtain ⟨tab, panels, h, top, bottom, slot, op⟩ := b
  obtain ⟨p0, p1, p2, p3, t0, t1, u0, u1, e1, e2, e3, r0, r1, r2, r3, s0, s1, q0, q1, rh⟩ := hF
  simp only at e1 e2 e3 h1 h2 h3 rh htab
  subst e1 e2 e3
  obtain rfl : n1 = 4 := h1.1
  obtain rfl : n2 = 2 := h2.1
  obtain rfl : n3 = 2 := h3.1
  obtain ⟨b1, o1, rfl, l1, k1⟩ := h1.at (by simp)
  obtain ⟨b2, o2, rfl, l2, k2⟩ := h2.at (by simp)
  obtain ⟨b3, o3, rfl, l3, k3⟩ := h3.at (by simp)
  have Z := Lib.hid z; have H2 := Lib.hid h2; have H3 := Lib.hid h3; have K1 := Lib.hid k1
  have hw0 := balloc1 w (.cells #[.int .i64 tab, .slice (some ⟨b1, o1, none⟩) 4 c1, .int .i64 h, .slice (some ⟨b2, o2, none⟩) 2 c2, .slice (some ⟨b3, o3, none⟩) 2 c3, .int .i64 slot, .bool op] 57)
  have R := Lib.hid (And.intro htab (And.intro r0 (And.intro r1 (And.intro r2 r3))))
  clear z h1 h2 h3 k1 k2 k3
  obtain ⟨i0, hi, hz0, hz1, hz2⟩ := info_parts Try.info3x
  go_enter Try.func17, Try.ntmps17
  go_wp2_with ((with_reducible refine (C.out).mono ?_); rintro e w1 ⟨rfl, hb1⟩; have hc1 := box_cell hb1)
  have hb0 := hb1
  have hw1 : w.heap.size + 1 ≤ w1.heap.size := by have := hb1.size; simpa using this
  have x0 := ((bnext hw0 hb1).cell (p := ⟨b1, o1 + 0, none⟩) l1).trans (K1.out 0 (by simp))
  simp only [Nat.add_zero, List.getD_cons_zero] at x0
  refine wp_loop_rounds 5 ?_
  rw [rounds_succ]
  go_wp2_with (at_builtin; refine wpList_append_lies _ rfl (.tmp 24) (.tmp 26) 29 rfl (w.heap.size + 1) 3 i0 _ 1 8 Try.underlying29 hi hz0 hz1 hz2 rfl (by omega) _ 0 _ rfl (World.ownsRow_nil _ _ _ _) ⟨w1.heap.size, 0, none⟩ 1 1 [.int .i64 tab] rfl rfl (World.news_of_block (fr := (0, 0)) (t := 3) (cs := #[.int .i64 tab]) (blk_new (by simp))) (by simp [Value.oneCell']) (by omega) (by decide) (by decide) (size_ok hb1) _ rfl ?_; intro g1 cap1 w2 hown1 hgrow1 _ hlt1)
  have hb2 : Below (w.alloc (.cells #[.int .i64 tab, .slice (some ⟨b1, o1, none⟩) 4 c1, .int .i64 h, .slice (some ⟨b2, o2, none⟩) 2 c2, .slice (some ⟨b3, o3, none⟩) 2 c3, .int .i64 slot, .bool op] 57)).heap.size (w.alloc (.cells #[.int .i64 tab, .slice (some ⟨b1, o1, none⟩) 4 c1, .int .i64 h, .slice (some ⟨b2, o2, none⟩) 2 c2, .slice (some ⟨b3, o3, none⟩) 2 c3, .int .i64 slot, .bool op] 57)) w2 := (balloc hb1 _).grown hgrow1 (balloc hb1 _).size (by intro k hk; cases hk)
  have hc2 := box_cell hb2
  have x1 := ((bnext hw0 hb2).cell (p := ⟨b1, o1 + 1, none⟩) l1).trans (K1.out 1 (by simp))
  simp only [List.getD_cons_zero, List.getD_cons_succ] at x1
  clear x0 hc1 hgrow1
  go_wp2
  rw [rounds_succ]
  go_wp2_with (at_builtin; refine wpList_append_lies _ rfl (.tmp 24) (.tmp 26) 29 rfl (w.heap.size + 1) 3 i0 _ 1 8 Try.underlying29 hi hz0 hz1 hz2 rfl (by omega) _ 1 _ rfl (hown1.alloc _) ⟨w2.heap.size, 0, none⟩ 1 1 [.int .i64 (tab + p0)] rfl rfl (World.news_of_block (fr := (0, 0)) (t := 3) (cs := #[.int .i64 (tab + p0)]) (blk_new (by simp))) (by simp [Value.oneCell']) (by omega) (by decide) (by decide) (size_ok hb2) _ rfl ?_; intro g2 cap2 w3 hown2 hgrow2 _ hlt2)
  have hb3 : Below (w.alloc (.cells #[.int .i64 tab, .slice (some ⟨b1, o1, none⟩) 4 c1, .int .i64 h, .slice (some ⟨b2, o2, none⟩) 2 c2, .slice (some ⟨b3, o3, none⟩) 2 c3, .int .i64 slot, .bool op] 57)).heap.size (w.alloc (.cells #[.int .i64 tab, .slice (some ⟨b1, o1, none⟩) 4 c1, .int .i64 h, .slice (some ⟨b2, o2, none⟩) 2 c2, .slice (some ⟨b3, o3, none⟩) 2 c3, .int .i64 slot, .bool op] 57)) w3 := (balloc hb2 _).grown hgrow2 (balloc hb2 _).size (own_ge1 hown1)
  have hc3 := box_cell hb3
  have x2 := ((bnext hw0 hb3).cell (p := ⟨b1, o1 + 2, none⟩) l1).trans (K1.out 2 (by simp))
  simp only [List.getD_cons_zero, List.getD_cons_succ] at x2
  clear x1 hc2 hgrow2
  go_wp2
  rw [rounds_succ]
  go_wp2_with (at_builtin; refine wpList_append_lies _ rfl (.tmp 24) (.tmp 26) 29 rfl (w.heap.size + 1) 3 i0 _ 1 8 Try.underlying29 hi hz0 hz1 hz2 rfl (by omega) _ 2 _ rfl (hown2.alloc _) ⟨w3.heap.size, 0, none⟩ 1 1 [.int .i64 (tab + p0 + p1)] rfl rfl (World.news_of_block (fr := (0, 0)) (t := 3) (cs := #[.int .i64 (tab + p0 + p1)]) (blk_new (by simp))) (by simp [Value.oneCell']) (by omega) (by decide) (by decide) (size_ok hb3) _ rfl ?_; intro g3 cap3 w4 hown3 hgrow3 _ hlt3)
  have hb4 : Below (w.alloc (.cells #[.int .i64 tab, .slice (some ⟨b1, o1, none⟩) 4 c1, .int .i64 h, .slice (some ⟨b2, o2, none⟩) 2 c2, .slice (some ⟨b3, o3, none⟩) 2 c3, .int .i64 slot, .bool op] 57)).heap.size (w.alloc (.cells #[.int .i64 tab, .slice (some ⟨b1, o1, none⟩) 4 c1, .int .i64 h, .slice (some ⟨b2, o2, none⟩) 2 c2, .slice (some ⟨b3, o3, none⟩) 2 c3, .int .i64 slot, .bool op] 57)) w4 := (balloc hb3 _).grown hgrow3 (balloc hb3 _).size (own_ge1 hown2)
  have hc4 := box_cell hb4
  have x3 := ((bnext hw0 hb4).cell (p := ⟨b1, o1 + 3, none⟩) l1).trans (K1.out 3 (by simp))
  simp only [List.getD_cons_zero, List.getD_cons_succ] at x3
  clear x2 hc3 hgrow3
  go_wp2
  rw [rounds_succ]
  go_wp2_with (at_builtin; refine wpList_append_lies _ rfl (.tmp 24) (.tmp 26) 29 rfl (w.heap.size + 1) 3 i0 _ 1 8 Try.underlying29 hi hz0 hz1 hz2 rfl (by omega) _ 3 _ rfl (hown3.alloc _) ⟨w4.heap.size, 0, none⟩ 1 1 [.int .i64 (tab + p0 + p1 + p2)] rfl rfl (World.news_of_block (fr := (0, 0)) (t := 3) (cs := #[.int .i64 (tab + p0 + p1 + p2)]) (blk_new (by simp))) (by simp [Value.oneCell']) (by omega) (by decide) (by decide) (size_ok hb4) _ rfl ?_; intro g4 cap4 w5 hown4 hgrow4 _ hlt4)
  have hb5 : Below (w.alloc (.cells #[.int .i64 tab, .slice (some ⟨b1, o1, none⟩) 4 c1, .int .i64 h, .slice (some ⟨b2, o2, none⟩) 2 c2, .slice (some ⟨b3, o3, none⟩) 2 c3, .int .i64 slot, .bool op] 57)).heap.size (w.alloc (.cells #[.int .i64 tab, .slice (some ⟨b1, o1, none⟩) 4 c1, .int .i64 h, .slice (some ⟨b2, o2, none⟩) 2 c2, .slice (some ⟨b3, o3, none⟩) 2 c3, .int .i64 slot, .bool op] 57)) w5 := (balloc hb4 _).grown hgrow4 (balloc hb4 _).size (own_ge1 hown3)
  have hc5 := box_cell hb5
  clear x3 hc4 hgrow4
  go_wp2
  rw [rounds_succ]
  have M2 := Lib.hid (H2.out.below (bnext hw0 hb5) (Nat.le_refl _))
  have mt : 0 ≤ max t0 t1 ∧ max t0 t1 ≤ 3000 := by simp only [Int.max_def]; split <;> omega
  generalize hmt : max t0 t1 = mt' at *
  have HMT := Lib.hid hmt
  clear hmt
  go_wp2_with (go_at_call 35; (with_reducible refine (max_two t0 t1 _ _ _ M2.out).mono ?_); rintro e w' ⟨rfl, rfl⟩; rw [HMT.out])
  have wr1 : IntKind.i64.wrap (mt' + h) = mt' + h := IntWalk.i64_in _ (by omega)
  go_region
  all_goals go_wp2
  go_ret3
  refine ⟨some ⟨g4, 0, none⟩, 4, cap4, some ⟨w5.heap.size, 0, none⟩, 2, 2, by rw [Z.out]; rfl, ?_, ?_, bnext hw0 (balloc hb5 _).drew⟩
  · rw [if_pos Z.out]
    exact (owns_ii (xs := [tab, tab + p0, tab + p0 + p1, tab + p0 + p1 + p2]) hown4).below (balloc1 w5 _).drew (Nat.le_refl _)
  · rw [if_pos Z.out]
    simp only [topOf, List.getD_cons_zero, List.getD_cons_succ, HMT.out]
    exact (ii_two w5 mt' (mt' + h) 3 _ rfl).below (Below.refl _ _).drew (Nat.le_refl _)
end Go.Proofs.Ytnhipdbdolabkaa
namespace Go.Proofs.Ytnhipdbdolabkaa
open Go.RowKit
theorem checked_split {bs : List Bl} {cs : List Sp} (h : checkedErr bs cs = 0) : (∀ b ∈ bs, checkErr b = 0) ∧ (∀ s ∈ cs, isSpan s 1 10000 = true) := by
  induction bs with
  | nil =>
    refine ⟨by simp, fun s hs => ?_⟩
    cases e : isSpan s 1 10000 with
    | true => rfl
    | false =>
      have : cs.any (fun s => !isSpan s 1 10000) = true := List.any_eq_true.2 ⟨s, hs, by simp [e]⟩
      simp [checkedErr, this] at h
  | cons b r ih =>
    simp only [checkedErr] at h
    by_cases e : checkErr b = 0
    · rw [if_pos e] at h
      exact ⟨by intro x hx; rcases List.mem_cons.1 hx with rfl | hx; exact e; exact (ih h).1 x hx, (ih h).2⟩
    · rw [if_neg e] at h; exact absurd h e
theorem span_bounds {s : Sp} (h : isSpan s 1 10000 = true) : 1 ≤ s.1 ∧ s.1 ≤ s.2 ∧ s.2 ≤ 10000 := by
  simp only [isSpan, Bool.and_eq_true, decide_eq_true_eq] at h
  have h1 := within_all h.1 s.1 (by simp); have h2 := within_all h.1 s.2 (by simp)
  omega
end Go.Proofs.Ytnhipdbdolabkaa
namespace Go.Proofs
open Go.Shelf
def Try.lays215_ren : Go.Shelf.Ren := ⟨fun | 215 => 88 | n => n, fun | 3 => 3 | 4 => 4 | n => n, fun | n => n⟩
def Try.lays189_ren : Go.Shelf.Ren := ⟨fun | 189 => 74 | 125 => 87 | 257 => 86 | 128 => 98 | 129 => 99 | 294 => 90 | 295 => 91 | 296 => 92 | 297 => 93 | 298 => 94 | 299 => 95 | 216 => 77 | 300 => 96 | 301 => 97 | 328 => 100 | 329 => 101 | 330 => 102 | 331 => 103 | 332 => 104 | 215 => 88 | 343 => 105 | n => n, fun | 28 => 29 | 3 => 3 | 46 => 148 | 0 => 0 | 51 => 159 | 53 => 161 | 4 => 4 | 183 => 152 | 182 => 151 | 131 => 156 | 5 => 5 | 9 => 9 | 218 => 162 | 222 => 166 | 228 => 168 | 229 => 169 | n => n, fun | n => n⟩
theorem Try.lays189 : Go.Proofs.Lays.n189 Try.prog Try.lays189_ren := {
  mixed := by kernel_rfl
  f125 := Try.func87.trans (congrArg some (by kernel_rfl))
  f128 := Try.func98.trans (congrArg some (by kernel_rfl))
  f129 := Try.func99.trans (congrArg some (by kernel_rfl))
  f189 := Try.func74.trans (congrArg some (by kernel_rfl))
  f215 := Try.func88.trans (congrArg some (by kernel_rfl))
  f216 := Try.func77.trans (congrArg some (by kernel_rfl))
  f257 := Try.func86.trans (congrArg some (by kernel_rfl))
  f294 := Try.func90.trans (congrArg some (by kernel_rfl))
  f295 := Try.func91.trans (congrArg some (by kernel_rfl))
  f296 := Try.func92.trans (congrArg some (by kernel_rfl))
  f297 := Try.func93.trans (congrArg some (by kernel_rfl))
  f298 := Try.func94.trans (congrArg some (by kernel_rfl))
  f299 := Try.func95.trans (congrArg some (by kernel_rfl))
  f300 := Try.func96.trans (congrArg some (by kernel_rfl))
  f301 := Try.func97.trans (congrArg some (by kernel_rfl))
  f328 := Try.func100.trans (congrArg some (by kernel_rfl))
  f329 := Try.func101.trans (congrArg some (by kernel_rfl))
  f330 := Try.func102.trans (congrArg some (by kernel_rfl))
  f331 := Try.func103.trans (congrArg some (by kernel_rfl))
  f332 := Try.func104.trans (congrArg some (by kernel_rfl))
  f343 := Try.func105.trans (congrArg some (by kernel_rfl))
  t0 := Try.underlying0
  a0 := Try.isAgg0
  z0 := Try.sizeOf0
  v0 := Try.zeroValue0
  t3 := Try.underlying3
  a3 := Try.isAgg3
  z3 := Try.sizeOf3
  v3 := Try.zeroValue3
  t4 := Try.underlying4
  a4 := Try.isAgg4
  z4 := Try.sizeOf4
  v4 := Try.zeroValue4
  t5 := Try.underlying5
  a5 := Try.isAgg5
  z5 := Try.sizeOf5
  v5 := Try.zeroValue5
  t9 := Try.underlying9
  a9 := Try.isAgg9
  z9 := Try.sizeOf9
  v9 := Try.zeroValue9
  t28 := Try.underlying29
  a28 := Try.isAgg29
  z28 := Try.sizeOf29
  v28 := Try.zeroValue29
  t46 := Try.underlying148
  a46 := Try.isAgg148
  z46 := Try.sizeOf148
  v46 := Try.zeroValue148
  t51 := Try.underlying159
  a51 := Try.isAgg159
  z51 := Try.sizeOf159
  v51 := Try.zeroValue159
  t53 := Try.underlying161
  a53 := Try.isAgg161
  z53 := Try.sizeOf161
  v53 := Try.zeroValue161
  t131 := Try.underlying156
  a131 := Try.isAgg156
  z131 := Try.sizeOf156
  v131 := Try.zeroValue156
  t182 := Try.underlying151
  a182 := Try.isAgg151
  z182 := Try.sizeOf151
  v182 := Try.zeroValue151
  t183 := Try.underlying152
  a183 := Try.isAgg152
  z183 := Try.sizeOf152
  v183 := Try.zeroValue152
  t218 := Try.underlying162
  a218 := Try.isAgg162
  z218 := Try.sizeOf162
  v218 := Try.zeroValue162
  t222 := Try.underlying166
  a222 := Try.isAgg166
  z222 := Try.sizeOf166
  v222 := Try.zeroValue166
  t228 := Try.underlying168
  a228 := Try.isAgg168
  z228 := Try.sizeOf168
  v228 := Try.zeroValue168
  t229 := Try.underlying169
  a229 := Try.isAgg169
  z229 := Try.sizeOf169
  v229 := Try.zeroValue169 }
open Go.Sort Go.RowKit in
theorem Try.slices_Sort_int (blk off cap : Nat) (zs : List Int) (w : World) (hH : Holds (Value.int .i64) w blk off zs.toArray) (hblk : blk < w.heap.size) (hsz : zs.length < 4611686018427387904) :
    Calls Try.prog 74 #[.slice (some ⟨blk, off, none⟩) zs.length cap] w fun e w' =>
      e = .returned (.tuple #[]) ∧ ∃ n os, w' = grow (putRow (Value.int .i64) (Sort.ahead w n) blk off (zs.mergeSort fun x y => decide (x ≤ y)).toArray) os := Any.slices_Sort_int Try.lays189 blk off cap zs w hH hblk hsz
def Try.laysNm215_ren : Go.Shelf.Ren := ⟨fun | 15 => 55 | n => n, fun | 22 => 29 | 3 => 3 | 4 => 4 | n => n, fun | n => n⟩
theorem Try.laysNm215 : Go.Proofs.Lays2.n15 Try.prog Try.laysNm215_ren := {
  mixed := by kernel_rfl
  f15 := Try.func55.trans (congrArg some (by kernel_rfl))
  t3 := Try.underlying3
  a3 := Try.isAgg3
  z3 := Try.sizeOf3
  v3 := Try.zeroValue3
  t4 := Try.underlying4
  a4 := Try.isAgg4
  z4 := Try.sizeOf4
  v4 := Try.zeroValue4
  t22 := Try.underlying29
  a22 := Try.isAgg29
  z22 := Try.sizeOf29
  v22 := Try.zeroValue29
  i3 := by kernel_rfl }
open Go.RowKit Go.Lib in
/-- slices.Clone at []int: "Clone returns a copy of the slice. The elements are copied using assignment, so this is a shallow clone. The result may have additional unused capacity. The result preserves the nilness of s.": OF A SLICE THAT IS NOT nil IT RETURNS A SLICE THAT IS NOT nil, OF THE SAME ELEMENTS, IN MEMORY OF THE CALL's OWN: in the how-to's words (6f): 'w'.ownsRow B e 1 v' n cells': v' begins at the head of a row among the blocks from B on (B: the heap's size at the call), not frozen, whose first cells are the elements · 'Below B w w'': below B all is as it was. The capacity is whatever the run-time gives. 'zs': what the cells behind the slice's address hold; 'zs.take n': its elements. (LAID: no walk: one application.) -/
theorem Try.slices_Clone_int (b off n c : Nat) (zs : List Int) (w : World) (hz : n ≤ zs.length) (hbig : n * 8 ≤ 140737488355328) (hc : ∀ j, j < zs.length → w.cell? ⟨b, off + j, none⟩ = some (.int .i64 (zs.getD j 0))) :
    Calls Try.prog 55 #[.slice (some ⟨b, off, none⟩) n c] w fun e w' => ∃ v', e = .returned v' ∧ w'.ownsRow w.heap.size 3 1 v' n ((zs.take n).map (Value.int .i64)) ∧ v' ≠ .slice none 0 0 ∧ Below w.heap.size w w' := Any.slices_Clone_int Try.laysNm215 b off n c zs w hz hbig hc
def Try.laysNm220_ren : Go.Shelf.Ren := ⟨fun | 20 => 54 | n => n, fun | 22 => 29 | 3 => 3 | 4 => 4 | 0 => 0 | n => n, fun | n => n⟩
theorem Try.laysNm220 : Go.Proofs.Lays2.n20 Try.prog Try.laysNm220_ren := {
  mixed := by kernel_rfl
  f20 := Try.func54.trans (congrArg some (by kernel_rfl))
  t0 := Try.underlying0
  a0 := Try.isAgg0
  z0 := Try.sizeOf0
  v0 := Try.zeroValue0
  t3 := Try.underlying3
  a3 := Try.isAgg3
  z3 := Try.sizeOf3
  v3 := Try.zeroValue3
  t4 := Try.underlying4
  a4 := Try.isAgg4
  z4 := Try.sizeOf4
  v4 := Try.zeroValue4
  t22 := Try.underlying29
  a22 := Try.isAgg29
  z22 := Try.sizeOf29
  v22 := Try.zeroValue29
  i3 := by kernel_rfl }
def Try.laysNm231_ren : Go.Shelf.Ren := ⟨fun | 31 => 77 | 37 => 88 | n => n, fun | 3 => 3 | 4 => 4 | n => n, fun | n => n⟩
theorem Try.laysNm231 : Go.Proofs.Lays2.n31 Try.prog Try.laysNm231_ren := {
  mixed := by kernel_rfl
  f31 := Try.func77.trans (congrArg some (by kernel_rfl))
  f37 := Try.func88.trans (congrArg some (by kernel_rfl))
  t3 := Try.underlying3
  a3 := Try.isAgg3
  z3 := Try.sizeOf3
  v3 := Try.zeroValue3
  t4 := Try.underlying4
  a4 := Try.isAgg4
  z4 := Try.sizeOf4
  v4 := Try.zeroValue4 }
open Go.RowKit Go.Lib in
/-- cmp.Less[int]: "Less reports whether x is less than y.": 'x < y'; the world is as it was. (LAID: no walk: one application.) -/
theorem Try.cmp_Less_int2 (x y : Int) (w : World) :
    Calls Try.prog 77 #[.int .i64 x, .int .i64 y] w fun e w' => e = .returned (.bool (decide (x < y))) ∧ w' = w := Any.cmp_Less_int2 Try.laysNm231 x y w
open Go.RowKit Go.Lib Go.Sort in
/-- slices.Compact at []int, of an argument: the slice cut to 'Lib.compact (elements)'; the n cells hold that, then zeros. (LAID: no walk: one application.) -/
theorem Try.slices_Compact_int_cells (b off n c : Nat) (zs : List Int) (w : World) (hz : n ≤ zs.length) (hbig : n ≤ 9223372036854775807) (hcap : n ≤ c) (hc : ∀ j, j < zs.length → w.cell? ⟨b, off + j, none⟩ = some (.int .i64 (zs.getD j 0))) (hf : ∀ j, j < n → w.frozen? ⟨b, off + j, none⟩ = false) :
    Calls Try.prog 54 #[.slice (some ⟨b, off, none⟩) n c] w fun e w' => e = .returned (.slice (some ⟨b, off, none⟩) (Lib.compact (zs.take n)).length c) ∧ ∃ q, w' = (w.drewN q).setCells b off ((Lib.compact (zs.take n) ++ List.replicate (n - (Lib.compact (zs.take n)).length) 0).map (Value.int .i64)) := Any.slices_Compact_int_cells Try.laysNm220 b off n c zs w hz hbig hcap hc hf
end Go.Proofs
namespace Go.Proofs.Ytnhipdbdolabkaa
open Go.RowKit
/-- All that was there is as it was, but for block g. -/
structure Except (g : Nat) (w w' : World) : Prop where
  os : w'.os = w.os
  tape : w'.tape = w.tape
  output : w'.output = w.output
  size : w.heap.size ≤ w'.heap.size
  block : ∀ k, k < w.heap.size → k ≠ g → w'.heap[k]? = w.heap[k]?
theorem Except.below {g B : Nat} {a w w' : World} (h : Except g w w') (hb : Below B a w) (hB : B ≤ g) (hs : B ≤ w.heap.size) : Below B a w' :=
  ⟨h.os.trans hb.os, h.tape.trans hb.tape, h.output.trans hb.output, Nat.le_trans hb.size h.size, fun k hk => (h.block k (by omega) (by omega)).trans (hb.block k hk)⟩
theorem Except.cell {g : Nat} {w w' : World} (h : Except g w w') {p : Addr} (hp : p.block < w.heap.size) (hg : p.block ≠ g) : w'.cell? p = w.cell? p := World.cell?_of_block (w := w) (h.block p.block hp hg)
theorem Except.ii {g : Nat} {w w' : World} (h : Except g w w') {b off len cap : Nat} {xs : List Int} (hi : Ii w (some ⟨b, off, none⟩) len cap xs) (hb : b ≠ g) : Ii w' (some ⟨b, off, none⟩) len cap xs := by
  obtain ⟨h0, h1, h2, h3, h4⟩ := hi
  refine ⟨h0, h1, h2, h3, ?_⟩
  rcases h4 with h4 | ⟨b', off', ha, hlt, hc⟩
  · exact .inl h4
  · simp only [Option.some.injEq, Addr.mk.injEq, and_true] at ha
    obtain ⟨rfl, rfl⟩ := ha
    exact .inr ⟨b, off, rfl, Nat.lt_of_lt_of_le hlt h.size, fun i hi => (h.cell (p := ⟨b, off + i, none⟩) hlt hb).trans (hc i hi)⟩
/-- What Sort leaves. -/
def SortP (g cap : Nat) (zs : List Int) (w : World) (e : Ending) (w' : World) : Prop :=
  e = .returned (.tuple #[]) ∧ Ii w' (some ⟨g, 0, none⟩) zs.length cap (zs.mergeSort fun x y => decide (x ≤ y)) ∧ Except g w w'
theorem sort_own (g cap : Nat) (zs : List Int) (w : World) (h : Ii w (some ⟨g, 0, none⟩) zs.length cap zs) (hf : ∀ i, w.frozen? ⟨g, i, none⟩ = false) (hg : g < w.heap.size) (hn : zs.length ≤ 1000) :
    Calls Try.prog 74 #[.slice (some ⟨g, 0, none⟩) zs.length cap] w (SortP g cap zs w) := by
  have hH : Sort.Holds (Value.int .i64) w g 0 zs.toArray := by
    intro j hj
    have hj' : j < zs.length := by simpa using hj
    refine ⟨?_, by simpa using hf (0 + j)⟩
    rcases h.2.2.2.2 with h4 | ⟨b', off', ha, hlt, hc⟩
    · simp at h4; subst h4; simp at hj
    · simp only [Option.some.injEq, Addr.mk.injEq, and_true] at ha
      obtain ⟨rfl, rfl⟩ := ha
      rw [hc j (by simpa using hj')]
      simp [List.getD_eq_getElem?_getD, hj']
  refine (Try.slices_Sort_int g 0 cap zs w hH hg (by omega)).mono ?_
  rintro e w' ⟨rfl, n, os, rfl⟩
  have hl := List.length_mergeSort (le := fun x y : Int => decide (x ≤ y)) zs
  refine ⟨rfl, ⟨by rw [hl], h.2.1, h.2.2.1, h.2.2.2.1, .inr ⟨g, 0, rfl, ?_, fun i hi => ?_⟩⟩, ⟨rfl, rfl, rfl, ?_, fun k hk hkg => ?_⟩⟩
  · simp [Sort.grow, Sort.putRow, Sort.mapBlock, Sort.ahead]; omega
  · have hi' : i < zs.length := by simpa [hl] using hi
    rw [Sort.cell?_grow _ _ _ (by simpa [Sort.putRow, Sort.mapBlock, Sort.ahead] using hg), Sort.cell?_putRow _ _ _ _ zs.toArray _ (Sort.holds_ahead _ _ _ _ _ _ hH) (by simp [hl]) i (by simpa [hl] using hi')]
    simp [List.getD_eq_getElem?_getD, hi', hl]
  · simp [Sort.grow, Sort.putRow, Sort.mapBlock, Sort.ahead]
  · simp only [Sort.grow, Sort.putRow, Sort.mapBlock, Sort.ahead]
    rw [Array.getElem?_append_left (by simpa using hk), Array.getElem?_modify, if_neg (by omega)]
end Go.Proofs.Ytnhipdbdolabkaa
namespace Go.Proofs.Ytnhipdbdolabkaa
open Go.RowKit
set_option maxHeartbeats 2000000 in
theorem fits1_any (k : Nat) (x y c : Int) (g cap : Nat) (pa pc : Addr) (w : World) (hk : k < 9) (ha : w.cell? pa = some (.slice (some ⟨g, 0, none⟩) 9 cap)) (hc : w.cell? pc = some (.int .i64 c))
    (h0 : w.cell? ⟨g, k * 2, none⟩ = some (.int .i64 x)) (h1 : w.cell? ⟨g, k * 2 + 1, none⟩ = some (.int .i64 y)) (la : pa.block < w.heap.size) (lc : pc.block < w.heap.size) (lg : g < w.heap.size)
    (r1 : -100000 ≤ x) (r2 : x ≤ 100000) (r3 : 0 ≤ y) (r4 : y ≤ 10) (r5 : 0 ≤ c) (r6 : c ≤ 100000) :
    Calls Try.prog 70 #[.int .i64 k, .pointer (some pa), .pointer (some pc)] w fun e w' => e = .returned (.int .i64 (1000 * x - y * c)) ∧ Below w.heap.size w w' := by
  have hk0 : (0 : Int) ≤ (k : Int) := by omega
  have hk1 : (k : Int) < 9 := by omega
  go_enter Try.func70, Try.ntmps70
  go_wp2_with fail
  go_region_held3 (fun w' => w'.cell? pa = some (.slice (some ⟨g, 0, none⟩) 9 cap) ∧ w'.cell? pc = some (.int .i64 c) ∧ w'.cell? ⟨g, k * 2, none⟩ = some (.int .i64 x) ∧ w'.cell? ⟨g, k * 2 + 1, none⟩ = some (.int .i64 y))
    (first
      | (refine ⟨(Below.cell (B := w.heap.size) (w := w) ?_ la).trans ha, (Below.cell (B := w.heap.size) (w := w) ?_ lc).trans hc, (Below.cell (B := w.heap.size) (w := w) ?_ lg).trans h0, (Below.cell (B := w.heap.size) (w := w) ?_ lg).trans h1⟩ <;> (repeat (first | exact Below.refl _ _ | assumption | apply Below.drew | refine balloc ?_ _)); done)
      | go_keep)
    (first
      | (go_at_call 71; (with_reducible refine (with_any x y c _ r1 r2 r3 r4 r5 r6).mono ?_); rintro e w2 ⟨rfl, hx⟩; have hb2 : Below w.heap.size w w2 := bnext (by repeat (first | exact Below.refl _ _ | assumption | apply Below.drew | (refine balloc ?_ _))) hx))
  go_wp2
  go_ret
  exact ⟨rfl, hb2⟩
set_option maxHeartbeats 400000 in
theorem fits2_any (n : Int) (w : World) (h1 : -100000 ≤ n) (h2 : n ≤ 100000) :
    Calls Try.prog 73 #[.int .i64 n] w fun e w' => e = .returned (.int .i64 (1000 * n)) ∧ Below w.heap.size w w' := by
  go_enter Try.func73, Try.ntmps73
  go_wp2
  go_ret
  exact ⟨rfl, Below.refl _ _⟩
def withM (l : List (Int × Int)) (c : Int) (i : Nat) : Int := 1000 * (l.getD i (0, 0)).1 - (l.getD i (0, 0)).2 * c
def roomOf (b : Bl) (c : Int) : List Int := [min (withM (meas b) c 0) (withM (meas b) c 2), min (withM (meas b) c 1) (withM (meas b) c 3), withM (meas b) c 4]
def sortI (l : List Int) : List Int := l.mergeSort fun x y => decide (x ≤ y)
def fitsOf (b : Bl) (c : Int) (thing : List Int) : Bool := ((sortI (thing.map (1000 * ·))).zip (sortI (roomOf b c))).all fun p => decide (p.1 ≤ p.2)
theorem ii_three (w : World) (x y z : Int) (t : TypeId) (g : Nat) (hg : g = w.heap.size) : Ii (w.alloc (.cells #[.int .i64 x, .int .i64 y, .int .i64 z] t)) (some ⟨g, 0, none⟩) 3 3 [x, y, z] := by
  subst hg
  refine ⟨rfl, Nat.le_refl _, by unfold maxLen; omega, by simp, .inr ⟨_, _, rfl, by simp, fun i hi => ?_⟩⟩
  have : i = 0 ∨ i = 1 ∨ i = 2 := by simp at hi; omega
  rcases this with rfl | rfl | rfl <;> simp
theorem list_three {α : Type} {l : List α} (h : l.length = 3) : ∃ x y z, l = [x, y, z] := by
  match l, h with
  | [x, y, z], _ => exact ⟨x, y, z, rfl⟩
set_option maxRecDepth 100000 in
set_option maxHeartbeats 8000000 in
theorem fits_any (v : Value) (b : Bl) (c : Int) (a : Option Addr) (n cc : Nat) (thing : List Int) (w : World) (hB : Blk w v b) (hF : Fine b) (h3 : thing.length = 3) (ht : ∀ x ∈ thing, 0 ≤ x ∧ x ≤ 3000) (hI : Ii w a n cc thing) (hc1 : 0 ≤ c) (hc2 : c ≤ 10000) :
    Calls Try.prog 50 #[v, .int .i64 c, .slice a n cc] w fun e w' => e = .returned (.bool (fitsOf b c thing)) ∧ Below w.heap.size w w' := by
  obtain ⟨a1, n1, c1, a2, n2, c2, a3, n3, c3, rfl, k1, k2, k3⟩ := hB
  have HB := Lib.hid (show Blk w _ b from ⟨a1, n1, c1, a2, n2, c2, a3, n3, c3, rfl, k1, k2, k3⟩)
  have HF := Lib.hid hF; have HI := Lib.hid hI; have HT := Lib.hid ht; have H3 := Lib.hid h3
  have hML := meas_in hF
  have HML := Lib.hid hML
  generalize hR : fitsOf b c thing = R
  have HR := Lib.hid hR
  clear k1 k2 k3 hF hI ht h3 hML hR
  go_enter Try.func50, Try.ntmps50
  go_wp2_with fail
  refine (measures_blk _ b _ (HB.out.below (balloc (balloc1 w _) _) (Nat.le_refl _)) HF.out).mono ?_
  rintro e w1 ⟨g, cap, rfl, hp, hx⟩
  rw [meas_length] at hp ⊢
  have hb1 : Below w.heap.size w w1 := bnext (balloc (balloc1 w _) _) hx
  have hcal : w1.cell? ⟨w.heap.size + 1, 0, none⟩ = some (.int .i64 c) := (hx.cell (p := ⟨w.heap.size + 1, 0, none⟩) (by simp)).trans (by simp)
  have hs1 : w.heap.size + 1 < w1.heap.size := by have := hx.size; simp at this; omega
  obtain ⟨g', o', e', lg, q⟩ := hp.at (by rw [meas_length]; omega)
  simp only [Option.some.injEq, Addr.mk.injEq, and_true] at e'
  obtain ⟨rfl, rfl⟩ := e'
  have Q := Lib.hid q; have HC := Lib.hid hcal
  clear hx hp q hcal
  go_wp2_with fail
  have fL : (w1.alloc (.cells #[.slice (some ⟨g, 0, none⟩) 9 cap] 130)).cell? ⟨w1.heap.size, 0, none⟩ = some (.slice (some ⟨g, 0, none⟩) 9 cap) := by simp
  have fb : Below w1.heap.size w1 (w1.alloc (.cells #[.slice (some ⟨g, 0, none⟩) 9 cap] 130)) := balloc1 w1 _
  have fs : w1.heap.size < (w1.alloc (.cells #[.slice (some ⟨g, 0, none⟩) 9 cap] 130)).heap.size := by simp
  generalize w1.alloc (.cells #[.slice (some ⟨g, 0, none⟩) 9 cap] 130) = W at fL fb fs ⊢
  have FL := Lib.hid fL; have FBW := Lib.hid fb
  have hat : ∀ (i : Nat), i < 9 → ∀ w2, Below W.heap.size W w2 → Calls Try.prog 70 #[.int .i64 i, .pointer (some ⟨w1.heap.size, 0, none⟩), .pointer (some ⟨w.heap.size + 1, 0, none⟩)] w2 fun e w' => e = .returned (.int .i64 (withM (meas b) c i)) ∧ Below w2.heap.size w2 w' := by
    intro i hi w2 h2
    have hq := Q.out i (by rw [meas_length]; exact hi)
    have hm := HML.out ((meas b).getD i (0, 0)) (getD_mem _ i (by rw [meas_length]; exact hi) _)
    have hbw : Below w1.heap.size w1 w2 := FBW.out.trans (h2.mono FBW.out.size)
    unfold withM
    generalize (meas b).getD i (0, 0) = x at *
    exact fits1_any i x.1 x.2 c g cap ⟨w1.heap.size, 0, none⟩ ⟨w.heap.size + 1, 0, none⟩ w2 hi ((h2.cell (p := ⟨w1.heap.size, 0, none⟩) fs).trans FL.out) ((hbw.cell (p := ⟨w.heap.size + 1, 0, none⟩) hs1).trans HC.out)
      ((hbw.cell (p := ⟨g, i * 2, none⟩) lg).trans (by simpa using hq.1)) ((hbw.cell (p := ⟨g, i * 2 + 1, none⟩) lg).trans (by simpa using hq.2)) (Nat.lt_of_lt_of_le fs h2.size) (Nat.lt_of_lt_of_le hs1 hbw.size) (Nat.lt_of_lt_of_le lg hbw.size)
      (by omega) (by omega) (by omega) (by omega) (by omega) (by omega)
  have HAT := Lib.hid hat
  have hw0 : Below W.heap.size W W := Below.refl _ _
  clear hat fL fb
  have C0 : Hid (Calls Try.prog 70 #[.int .i64 0, .pointer (some ⟨w1.heap.size, 0, none⟩), .pointer (some ⟨w.heap.size + 1, 0, none⟩)] W fun e w' => e = .returned (.int .i64 (withM (meas b) c 0)) ∧ Below W.heap.size W w') := Lib.hid (HAT.out 0 (by omega) W hw0)
  go_wp2_with ((with_reducible refine (C0.out).mono ?_); rintro e x0 ⟨rfl, hx0⟩)
  have hw1 : Below W.heap.size W x0 := bnext hw0 hx0
  clear C0 hx0
  have C1 : Hid (Calls Try.prog 70 #[.int .i64 2, .pointer (some ⟨w1.heap.size, 0, none⟩), .pointer (some ⟨w.heap.size + 1, 0, none⟩)] x0 fun e w' => e = .returned (.int .i64 (withM (meas b) c 2)) ∧ Below x0.heap.size x0 w') := Lib.hid (HAT.out 2 (by omega) x0 hw1)
  go_wp2_with ((with_reducible refine (C1.out).mono ?_); rintro e x1 ⟨rfl, hx1⟩)
  have hw2 : Below W.heap.size W x1 := bnext hw1 hx1
  clear C1 hx1
  have C2 : Hid (Calls Try.prog 70 #[.int .i64 1, .pointer (some ⟨w1.heap.size, 0, none⟩), .pointer (some ⟨w.heap.size + 1, 0, none⟩)] x1 fun e w' => e = .returned (.int .i64 (withM (meas b) c 1)) ∧ Below x1.heap.size x1 w') := Lib.hid (HAT.out 1 (by omega) x1 hw2)
  go_wp2_with ((with_reducible refine (C2.out).mono ?_); rintro e x2 ⟨rfl, hx2⟩)
  have hw3 : Below W.heap.size W x2 := bnext hw2 hx2
  clear C2 hx2
  have C3 : Hid (Calls Try.prog 70 #[.int .i64 3, .pointer (some ⟨w1.heap.size, 0, none⟩), .pointer (some ⟨w.heap.size + 1, 0, none⟩)] x2 fun e w' => e = .returned (.int .i64 (withM (meas b) c 3)) ∧ Below x2.heap.size x2 w') := Lib.hid (HAT.out 3 (by omega) x2 hw3)
  go_wp2_with ((with_reducible refine (C3.out).mono ?_); rintro e x3 ⟨rfl, hx3⟩)
  have hw4 : Below W.heap.size W x3 := bnext hw3 hx3
  clear C3 hx3
  have C4 : Hid (Calls Try.prog 70 #[.int .i64 4, .pointer (some ⟨w1.heap.size, 0, none⟩), .pointer (some ⟨w.heap.size + 1, 0, none⟩)] x3 fun e w' => e = .returned (.int .i64 (withM (meas b) c 4)) ∧ Below x3.heap.size x3 w') := Lib.hid (HAT.out 4 (by omega) x3 hw4)
  go_wp2_with ((with_reducible refine (C4.out).mono ?_); rintro e x4 ⟨rfl, hx4⟩)
  have hw5 : Below W.heap.size W x4 := bnext hw4 hx4
  clear C4 hx4
  have hWw : Below w.heap.size w x4 := hb1.trans ((FBW.out.trans (hw5.mono FBW.out.size)).mono hb1.size)
  have hi5 : Ii (x4.alloc (.cells #[.int .i64 (min (withM (meas b) c 0) (withM (meas b) c 2)), .int .i64 (min (withM (meas b) c 1) (withM (meas b) c 3)), .int .i64 (withM (meas b) c 4)] 3)) (some ⟨x4.heap.size, 0, none⟩) 3 3 (roomOf b c) := ii_three _ _ _ _ _ _ rfl
  have hf5 : ∀ i, (x4.alloc (.cells #[.int .i64 (min (withM (meas b) c 0) (withM (meas b) c 2)), .int .i64 (min (withM (meas b) c 1) (withM (meas b) c 3)), .int .i64 (withM (meas b) c 4)] 3)).frozen? ⟨x4.heap.size, i, none⟩ = false := fun i => Joins.unfrozen_of_block (blk_new rfl) i
  have hs5 : x4.heap.size < (x4.alloc (.cells #[.int .i64 (min (withM (meas b) c 0) (withM (meas b) c 2)), .int .i64 (min (withM (meas b) c 1) (withM (meas b) c 3)), .int .i64 (withM (meas b) c 4)] 3)).heap.size := by simp
  have hb5 : Below w.heap.size w (x4.alloc (.cells #[.int .i64 (min (withM (meas b) c 0) (withM (meas b) c 2)), .int .i64 (min (withM (meas b) c 1) (withM (meas b) c 3)), .int .i64 (withM (meas b) c 4)] 3)) := balloc hWw _
  have hle5 : w.heap.size ≤ x4.heap.size := hWw.size
  generalize x4.alloc (.cells #[.int .i64 (min (withM (meas b) c 0) (withM (meas b) c 2)), .int .i64 (min (withM (meas b) c 1) (withM (meas b) c 3)), .int .i64 (withM (meas b) c 4)] 3) = Y at hi5 hf5 hs5 hb5 ⊢
  generalize x4.heap.size = gr at hi5 hf5 hs5 hle5 ⊢
  obtain ⟨s0, s1, s2, rfl⟩ := list_three H3.out
  refine (mapped_own 73 Try.call73 #[] (1000 * ·) a n cc [s0, s1, s2] Y (HI.out.below hb5 (Nat.le_refl _)) (by simp) (by simp) (fun x hx w1 _ => fits2_any x w1 (by have := HT.out x hx; omega) (by have := HT.out x hx; omega))).mono ?_
  rintro e y ⟨g6, cap6, rfl, hi6, hx6, hg6, hl6, hf6⟩
  have hi5' := hi5.below hx6 (Nat.le_refl _)
  have hf5' : ∀ i, y.frozen? ⟨gr, i, none⟩ = false := fun i => (hx6.frozen (p := ⟨gr, i, none⟩) hs5).trans (hf5 i)
  have hb6 := hb5.trans (hx6.mono hb5.size)
  have hs6 : gr < y.heap.size := Nat.lt_of_lt_of_le hs5 hx6.size
  have hne : gr ≠ g6 := by omega
  simp only [List.length_map, List.length_cons, List.length_nil, Nat.zero_add, Nat.reduceAdd] at hi6 ⊢
  have CS : Hid (Calls Try.prog 74 #[.slice (some ⟨gr, 0, none⟩) 3 3] y (SortP gr 3 (roomOf b c) y)) := Lib.hid (sort_own gr 3 (roomOf b c) y hi5' hf5' hs6 (by simp [roomOf]))
  have HI6 := Lib.hid hi6; have HF6 := Lib.hid hf6; have HB6 := Lib.hid hb6
  clear hi5 hf5 hb5 hi5' hf5' hx6 hi6 hf6 hb6
  go_wp2_with ((with_reducible refine (CS.out).mono ?_); rintro e z ⟨rfl, hiz, hez⟩)
  have hi6z := hez.ii HI6.out (Ne.symm hne)
  have hf6z : ∀ i, z.frozen? ⟨g6, i, none⟩ = false := fun i => (World.frozen?_of_block (w := y) (a := ⟨g6, i, none⟩) (hez.block g6 hl6 (Ne.symm hne))).trans (HF6.out i)
  have hl6z : g6 < z.heap.size := Nat.lt_of_lt_of_le hl6 hez.size
  have CT : Hid (Calls Try.prog 74 #[.slice (some ⟨g6, 0, none⟩) 3 cap6] z (SortP g6 cap6 ([s0, s1, s2].map (1000 * ·)) z)) := Lib.hid (sort_own g6 cap6 _ z hi6z hf6z hl6z (by simp))
  have HBz : Hid (Below w.heap.size w z) := Lib.hid (hez.below HB6.out (by omega) HB6.out.size)
  have HIZ := Lib.hid hiz
  have hgrz : gr < z.heap.size := Nat.lt_of_lt_of_le hs6 hez.size
  clear CS hi6z hf6z hez hiz
  go_wp2_with ((with_reducible refine (CT.out).mono ?_); rintro e u ⟨rfl, hiu, heu⟩)
  have hRu := heu.ii HIZ.out hne
  have HBu : Hid (Below w.heap.size w u) := Lib.hid (heu.below HBz.out (by have := HB6.out.size; omega) HBz.out.size)
  have hsl : (sortI ([s0, s1, s2].map (1000 * ·))).length = 3 := by simp [sortI]
  have hrl : (sortI (roomOf b c)).length = 3 := by simp [sortI, roomOf]
  change Ii u _ _ _ (sortI ([s0, s1, s2].map (1000 * ·))) at hiu
  change Ii u _ _ _ (sortI (roomOf b c)) at hRu
  have HR' := Lib.hid (HR.out.symm.trans (show fitsOf b c [s0, s1, s2] = ((sortI ([s0, s1, s2].map (1000 * ·))).zip (sortI (roomOf b c))).all fun p => decide (p.1 ≤ p.2) from rfl))
  generalize sortI ([s0, s1, s2].map (1000 * ·)) = S at *
  generalize sortI (roomOf b c) = T at *
  obtain ⟨m0, m1, m2, rfl⟩ := list_three hsl
  obtain ⟨r0, r1, r2, rfl⟩ := list_three hrl
  obtain ⟨_, _, e1, lm, qm⟩ := hiu.at (by simp)
  obtain ⟨_, _, e2, lr, qr⟩ := hRu.at (by simp)
  simp only [Option.some.injEq, Addr.mk.injEq, and_true] at e1 e2
  obtain ⟨rfl, rfl⟩ := e1
  obtain ⟨rfl, rfl⟩ := e2
  have z0 := qm 0 (by simp); have z1 := qm 1 (by simp); have z2 := qm 2 (by simp)
  have y0 := qr 0 (by simp); have y1 := qr 1 (by simp); have y2 := qr 2 (by simp)
  simp only [Nat.add_zero, Nat.zero_add, List.getD_cons_zero, List.getD_cons_succ] at z0 z1 z2 y0 y1 y2
  clear CT heu hiu hRu qm qr hsl hrl HIZ HI6 HF6 H3 HT
  by_cases t0 : m0 ≤ r0
  case neg =>
    have E := Lib.hid (HR'.out.trans (show _ = false by simp [t0]))
    go_wp2
    refine wp_loop_rounds 1 ?_
    rw [rounds_succ]
    go_wp2
    go_ret
    exact ⟨ret_bool E.out.symm, HBu.out⟩
  by_cases t1 : m1 ≤ r1
  case neg =>
    have E := Lib.hid (HR'.out.trans (show _ = false by simp [t1]))
    go_wp2
    refine wp_loop_rounds 2 ?_
    rw [rounds_succ]
    go_wp2
    rw [rounds_succ]
    go_wp2
    go_ret
    exact ⟨ret_bool E.out.symm, HBu.out⟩
  by_cases t2 : m2 ≤ r2
  case neg =>
    have E := Lib.hid (HR'.out.trans (show _ = false by simp [t2]))
    go_wp2
    refine wp_loop_rounds 3 ?_
    rw [rounds_succ]
    go_wp2
    rw [rounds_succ]
    go_wp2
    rw [rounds_succ]
    go_wp2
    go_ret
    exact ⟨ret_bool E.out.symm, HBu.out⟩
  have E := Lib.hid (HR'.out.trans (show _ = true by simp [t0, t1, t2]))
  go_wp2
  refine wp_loop_rounds 4 ?_
  rw [rounds_succ]
  go_wp2
  rw [rounds_succ]
  go_wp2
  rw [rounds_succ]
  go_wp2
  rw [rounds_succ]
  go_wp2
  go_ret
  exact ⟨ret_bool E.out.symm, HBu.out⟩
end Go.Proofs.Ytnhipdbdolabkaa
