/- Part of the proof: what the claim leans on. -/
import Derived.Test.YtolnpbpeifpbjaaVAE
set_option maxHeartbeats 8000000
set_option maxRecDepth 100000
set_option linter.unusedSimpArgs false
set_option linter.unusedVariables false
namespace Go.Proofs.Ytolnpbpeifpbjaa
open Go.RowKit
def holdsErr (b : Bl) (s : Sp) (thing : List Int) : Int := if checkedErr [b] [s] = 0 then if thing.length = 3 then if areLong 0 thing = true then 0 else 2 else 4 else checkedErr [b] [s]
def HoldsP (b : Bl) (s : Sp) (thing : List Int) (w : World) (e : Ending) (w' : World) : Prop :=
  e = .returned (.tuple #[.bool (if holdsErr b s thing = 0 then fitsOf b s.2 thing else false), .bool (if holdsErr b s thing = 0 then fitsOf b s.1 thing else false), .int .i64 (holdsErr b s thing)]) ∧ Below w.heap.size w w'
theorem holds_any (v : Value) (b : Bl) (lo hi : Int) (a : Option Addr) (n cc : Nat) (thing : List Int) (w : World) (hB : Blk w v b) (hI : Ii w a n cc thing) :
    Calls Try.prog 21 #[v, .agg #[.int .i64 lo, .int .i64 hi], .slice a n cc] w (HoldsP b (lo, hi) thing w) := by
  obtain ⟨a1, n1, c1, a2, n2, c2, a3, n3, c3, rfl, h1, h2, h3⟩ := hB
  have HB := Lib.hid (show Blk w _ b from ⟨a1, n1, c1, a2, n2, c2, a3, n3, c3, rfl, h1, h2, h3⟩)
  have H1 := Lib.hid h1; have H2 := Lib.hid h2; have H3 := Lib.hid h3; have HI := Lib.hid hI
  have hlen := hI.1
  clear h1 h2 h3 hI
  have fin : ∀ (e : Ending) (w' : World) (s p : Bool) (er : Int), holdsErr b (lo, hi) thing = er → s = (if er = 0 then fitsOf b hi thing else false) → p = (if er = 0 then fitsOf b lo thing else false) → e = .returned (.tuple #[.bool s, .bool p, .int .i64 er]) → Below w.heap.size w w' → HoldsP b (lo, hi) thing w e w' := by
    rintro e w' s p er he rfl rfl rfl hb
    exact ⟨by rw [he], hb⟩
  have FIN := Lib.hid fin
  clear fin
  generalize hPP : HoldsP b (lo, hi) thing w = PP at *
  clear hPP
  go_enter Try.func21, Try.ntmps21
  go_wp2_with fail
  have fB : Below w.heap.size w ((((w.alloc (.cells #[.int .i64 b.tab, .slice a1 n1 c1, .int .i64 b.height, .slice a2 n2 c2, .slice a3 n3 c3, .int .i64 b.slot, .bool b.isOpen] 41)).alloc (.cells #[.int .i64 lo, .int .i64 hi] 62)).alloc (.cells #[.int .i64 b.tab, .slice a1 n1 c1, .int .i64 b.height, .slice a2 n2 c2, .slice a3 n3 c3, .int .i64 b.slot, .bool b.isOpen] 41)).alloc (.cells #[.int .i64 lo, .int .i64 hi] 62)) := (by repeat (first | exact Below.refl _ _ | assumption | apply Below.drew | (refine balloc ?_ _)))
  have fX : ((((w.alloc (.cells #[.int .i64 b.tab, .slice a1 n1 c1, .int .i64 b.height, .slice a2 n2 c2, .slice a3 n3 c3, .int .i64 b.slot, .bool b.isOpen] 41)).alloc (.cells #[.int .i64 lo, .int .i64 hi] 62)).alloc (.cells #[.int .i64 b.tab, .slice a1 n1 c1, .int .i64 b.height, .slice a2 n2 c2, .slice a3 n3 c3, .int .i64 b.slot, .bool b.isOpen] 41)).alloc (.cells #[.int .i64 lo, .int .i64 hi] 62)).heap[w.heap.size]? = some (.cells #[.int .i64 b.tab, .slice a1 n1 c1, .int .i64 b.height, .slice a2 n2 c2, .slice a3 n3 c3, .int .i64 b.slot, .bool b.isOpen] 41 (0, 0)) := blk_past (blk_past (blk_past (blk_new rfl)))
  have fY : ((((w.alloc (.cells #[.int .i64 b.tab, .slice a1 n1 c1, .int .i64 b.height, .slice a2 n2 c2, .slice a3 n3 c3, .int .i64 b.slot, .bool b.isOpen] 41)).alloc (.cells #[.int .i64 lo, .int .i64 hi] 62)).alloc (.cells #[.int .i64 b.tab, .slice a1 n1 c1, .int .i64 b.height, .slice a2 n2 c2, .slice a3 n3 c3, .int .i64 b.slot, .bool b.isOpen] 41)).alloc (.cells #[.int .i64 lo, .int .i64 hi] 62)).heap[w.heap.size + 1]? = some (.cells #[.int .i64 lo, .int .i64 hi] 62 (0, 0)) := blk_past (blk_past (blk_new (by simp)))
  have fU : ((((w.alloc (.cells #[.int .i64 b.tab, .slice a1 n1 c1, .int .i64 b.height, .slice a2 n2 c2, .slice a3 n3 c3, .int .i64 b.slot, .bool b.isOpen] 41)).alloc (.cells #[.int .i64 lo, .int .i64 hi] 62)).alloc (.cells #[.int .i64 b.tab, .slice a1 n1 c1, .int .i64 b.height, .slice a2 n2 c2, .slice a3 n3 c3, .int .i64 b.slot, .bool b.isOpen] 41)).alloc (.cells #[.int .i64 lo, .int .i64 hi] 62)).heap[w.heap.size + 1 + 1]? = some (.cells #[.int .i64 b.tab, .slice a1 n1 c1, .int .i64 b.height, .slice a2 n2 c2, .slice a3 n3 c3, .int .i64 b.slot, .bool b.isOpen] 41 (0, 0)) := blk_past (blk_new (by simp))
  have fp : Pp ((((w.alloc (.cells #[.int .i64 b.tab, .slice a1 n1 c1, .int .i64 b.height, .slice a2 n2 c2, .slice a3 n3 c3, .int .i64 b.slot, .bool b.isOpen] 41)).alloc (.cells #[.int .i64 lo, .int .i64 hi] 62)).alloc (.cells #[.int .i64 b.tab, .slice a1 n1 c1, .int .i64 b.height, .slice a2 n2 c2, .slice a3 n3 c3, .int .i64 b.slot, .bool b.isOpen] 41)).alloc (.cells #[.int .i64 lo, .int .i64 hi] 62)) (some ⟨w.heap.size + 1 + 1 + 1, 0, none⟩) 1 1 [(lo, hi)] := pp_one _ _ _ _ _ (by simp)
  have fs : w.heap.size + 1 + 1 + 1 < ((((w.alloc (.cells #[.int .i64 b.tab, .slice a1 n1 c1, .int .i64 b.height, .slice a2 n2 c2, .slice a3 n3 c3, .int .i64 b.slot, .bool b.isOpen] 41)).alloc (.cells #[.int .i64 lo, .int .i64 hi] 62)).alloc (.cells #[.int .i64 b.tab, .slice a1 n1 c1, .int .i64 b.height, .slice a2 n2 c2, .slice a3 n3 c3, .int .i64 b.slot, .bool b.isOpen] 41)).alloc (.cells #[.int .i64 lo, .int .i64 hi] 62)).heap.size := by simp
  generalize ((((w.alloc (.cells #[.int .i64 b.tab, .slice a1 n1 c1, .int .i64 b.height, .slice a2 n2 c2, .slice a3 n3 c3, .int .i64 b.slot, .bool b.isOpen] 41)).alloc (.cells #[.int .i64 lo, .int .i64 hi] 62)).alloc (.cells #[.int .i64 b.tab, .slice a1 n1 c1, .int .i64 b.height, .slice a2 n2 c2, .slice a3 n3 c3, .int .i64 b.slot, .bool b.isOpen] 41)).alloc (.cells #[.int .i64 lo, .int .i64 hi] 62)) = W at fB fX fY fU fp fs ⊢
  have FB := Lib.hid fB; have FX := Lib.hid fX; have FY := Lib.hid fY
  clear fB
  refine (checked_one b a1 a2 a3 n1 c1 n2 c2 n3 c3 _ _ _ _ _ [(lo, hi)] _ (by omega) (fun i => Joins.cell_of_block fU i) (H1.out.below FB.out (Nat.le_refl _)) (H2.out.below FB.out (Nat.le_refl _)) (H3.out.below FB.out (Nat.le_refl _)) fp).mono ?_
  rintro e w1 ⟨rfl, hb1⟩
  clear fU fp fX fY
  by_cases z : checkedErr [b] [(lo, hi)] = 0
  case neg =>
    have z' : (checkedErr [b] [(lo, hi)] != 0) = true := by rw [bne_iff_ne]; exact z
    have HE' := Lib.hid (show holdsErr b (lo, hi) thing = checkedErr [b] [(lo, hi)] by simp only [holdsErr]; rw [if_neg z])
    have HZ := Lib.hid z
    generalize checkedErr [b] [(lo, hi)] = x at *
    clear z
    go_wp2
    go_ret3
    exact FIN.out _ _ false false x HE'.out (by rw [if_neg HZ.out]) (by rw [if_neg HZ.out]) rfl (bnext FB.out hb1)
  rw [z]
  have Z := Lib.hid z
  clear z
  by_cases z3 : n = 3
  case neg =>
    have z' : ((n : Int) != 3) = true := by rw [bne_iff_ne]; omega
    have HE' := Lib.hid (show holdsErr b (lo, hi) thing = 4 by simp only [holdsErr]; rw [if_pos Z.out, if_neg (by omega)])
    clear z3 hlen
    go_wp2
    go_ret3
    exact FIN.out _ _ false false 4 HE'.out rfl rfl rfl (bnext FB.out hb1)
  subst z3
  have HLen := Lib.hid hlen
  clear hlen
  go_wp2_with fail
  refine (areLong_any 0 a 3 cc thing _ (HI.out.below (bnext FB.out hb1) (Nat.le_refl _))).mono ?_
  rintro e w2 ⟨rfl, hx⟩
  have hb2 := bnext hb1 hx
  clear hx hb1
  by_cases z : areLong 0 thing = true
  case neg =>
    have z' : areLong 0 thing = false := by simpa using z
    rw [z']
    have HE' := Lib.hid (show holdsErr b (lo, hi) thing = 2 by simp only [holdsErr]; rw [if_pos Z.out, if_pos HLen.out.symm, if_neg z])
    clear z z'
    go_wp2
    go_ret3
    exact FIN.out _ _ false false 2 HE'.out rfl rfl rfl (bnext FB.out hb2)
  rw [z]
  have HE' := Lib.hid (show holdsErr b (lo, hi) thing = 0 by simp only [holdsErr]; rw [if_pos Z.out, if_pos HLen.out.symm, if_pos z])
  obtain ⟨hck, hsp⟩ := checked_split Z.out
  obtain ⟨hF, -, -, -, -, -⟩ := fine_of_check (hck b (by simp))
  have hs1 := span_bounds (hsp (lo, hi) (by simp))
  simp only at hs1
  have HF := Lib.hid hF
  have HT : Hid (∀ x ∈ thing, 0 ≤ x ∧ x ≤ 3000) := Lib.hid (within_all z)
  have FX2 := Lib.hid ((hb2.block _ (by omega)).trans FX.out)
  have FY2 := Lib.hid ((hb2.block _ (by omega)).trans FY.out)
  have FB2 := Lib.hid (bnext FB.out hb2)
  have fs2 : w.heap.size + 1 + 1 + 1 < w2.heap.size := Nat.lt_of_lt_of_le fs hb2.size
  clear hF hb2 FX FY FB fs hck hsp z
  have x0 : w2.cell? ⟨w.heap.size, 0, none⟩ = some (.int .i64 b.tab) := Joins.cell_of_block FX2.out 0
  have x1 : w2.cell? ⟨w.heap.size, 1, none⟩ = some (.slice a1 n1 c1) := Joins.cell_of_block FX2.out 1
  have x2 : w2.cell? ⟨w.heap.size, 2, none⟩ = some (.int .i64 b.height) := Joins.cell_of_block FX2.out 2
  have x3 : w2.cell? ⟨w.heap.size, 3, none⟩ = some (.slice a2 n2 c2) := Joins.cell_of_block FX2.out 3
  have x4 : w2.cell? ⟨w.heap.size, 4, none⟩ = some (.slice a3 n3 c3) := Joins.cell_of_block FX2.out 4
  have x5 : w2.cell? ⟨w.heap.size, 5, none⟩ = some (.int .i64 b.slot) := Joins.cell_of_block FX2.out 5
  have x6 : w2.cell? ⟨w.heap.size, 6, none⟩ = some (.bool b.isOpen) := Joins.cell_of_block FX2.out 6
  have x7 : w2.cell? ⟨w.heap.size + 1, 0, none⟩ = some (.int .i64 lo) := Joins.cell_of_block FY2.out 0
  have x8 : w2.cell? ⟨w.heap.size + 1, 1, none⟩ = some (.int .i64 hi) := Joins.cell_of_block FY2.out 1
  go_wp2_with fail
  go_region_held3 (fun w' => w'.cell? ⟨w.heap.size, 0, none⟩ = some (.int .i64 b.tab) ∧ w'.cell? ⟨w.heap.size, 1, none⟩ = some (.slice a1 n1 c1) ∧ w'.cell? ⟨w.heap.size, 2, none⟩ = some (.int .i64 b.height) ∧ w'.cell? ⟨w.heap.size, 3, none⟩ = some (.slice a2 n2 c2) ∧ w'.cell? ⟨w.heap.size, 4, none⟩ = some (.slice a3 n3 c3) ∧ w'.cell? ⟨w.heap.size, 5, none⟩ = some (.int .i64 b.slot) ∧ w'.cell? ⟨w.heap.size, 6, none⟩ = some (.bool b.isOpen) ∧ w'.cell? ⟨w.heap.size + 1, 0, none⟩ = some (.int .i64 lo) ∧ w'.cell? ⟨w.heap.size + 1, 1, none⟩ = some (.int .i64 hi))
    (first
      | (refine ⟨(Below.cell (B := w2.heap.size) (w := w2) ?_ (by show w.heap.size < _; omega)).trans x0, (Below.cell (B := w2.heap.size) (w := w2) ?_ (by show w.heap.size < _; omega)).trans x1, (Below.cell (B := w2.heap.size) (w := w2) ?_ (by show w.heap.size < _; omega)).trans x2, (Below.cell (B := w2.heap.size) (w := w2) ?_ (by show w.heap.size < _; omega)).trans x3, (Below.cell (B := w2.heap.size) (w := w2) ?_ (by show w.heap.size < _; omega)).trans x4, (Below.cell (B := w2.heap.size) (w := w2) ?_ (by show w.heap.size < _; omega)).trans x5, (Below.cell (B := w2.heap.size) (w := w2) ?_ (by show w.heap.size < _; omega)).trans x6, (Below.cell (B := w2.heap.size) (w := w2) ?_ (by show w.heap.size + 1 < _; omega)).trans x7, (Below.cell (B := w2.heap.size) (w := w2) ?_ (by show w.heap.size + 1 < _; omega)).trans x8⟩ <;> (repeat (first | exact Below.refl _ _ | assumption | apply Below.drew | refine balloc ?_ _)); done)
      | go_keep)
    (first
      | (go_at_call 41; (with_reducible refine (fits_any _ b hi a 3 cc thing _ (HB.out.below (FB2.out.trans ((show Below w2.heap.size w2 _ from (by repeat (first | exact Below.refl _ _ | assumption | apply Below.drew | (refine balloc ?_ _)))).mono FB2.out.size)) (Nat.le_refl _)) HF.out HLen.out.symm HT.out (HI.out.below (FB2.out.trans ((show Below w2.heap.size w2 _ from (by repeat (first | exact Below.refl _ _ | assumption | apply Below.drew | (refine balloc ?_ _)))).mono FB2.out.size)) (Nat.le_refl _)) (by omega) (by omega)).mono ?_); rintro e w3 ⟨rfl, hx⟩; have hb3 : Below w2.heap.size w2 w3 := bnext (by repeat (first | exact Below.refl _ _ | assumption | apply Below.drew | (refine balloc ?_ _))) hx; clear hx)
      | (go_at_call 41; (with_reducible refine (fits_any _ b lo a 3 cc thing _ (HB.out.below (FB2.out.trans ((show Below w2.heap.size w2 _ from (by repeat (first | exact Below.refl _ _ | assumption | apply Below.drew | (refine balloc ?_ _)))).mono FB2.out.size)) (Nat.le_refl _)) HF.out HLen.out.symm HT.out (HI.out.below (FB2.out.trans ((show Below w2.heap.size w2 _ from (by repeat (first | exact Below.refl _ _ | assumption | apply Below.drew | (refine balloc ?_ _)))).mono FB2.out.size)) (Nat.le_refl _)) (by omega) (by omega)).mono ?_); rintro e w4 ⟨rfl, hx⟩; have hb4 : Below w2.heap.size w2 w4 := bnext (by repeat (first | exact Below.refl _ _ | assumption | apply Below.drew | (refine balloc ?_ _))) hx; clear hx))
  clear x0 x1 x2 x3 x4 x5 x6 x7 x8
  go_wp2
  go_ret3
  exact FIN.out _ _ _ _ 0 HE'.out rfl rfl rfl (bnext FB2.out hb4)
open Go.RowKit
theorem down_eq (n b : Int) (hb : 0 < b) : (if n.tmod b < 0 then n.tdiv b - 1 else n.tdiv b) = n / b := by
  have h1 := Int.tmod_add_mul_tdiv n b
  have h3 : n.tmod b < b := Int.tmod_lt_of_pos n hb
  have h4 : -b < n.tmod b := by
    have := Int.tmod_lt_of_pos (-n) hb
    rw [Int.neg_tmod] at this
    omega
  split
  · have := (Int.ediv_emod_unique (a := n) (b := b) (q := n.tdiv b - 1) (r := n.tmod b + b) hb).2 ⟨by rw [Int.mul_sub]; omega, by omega, by omega⟩
    exact this.1.symm
  · have := (Int.ediv_emod_unique (a := n) (b := b) (q := n.tdiv b) (r := n.tmod b) hb).2 ⟨h1, by omega, by omega⟩
    exact this.1.symm
def every : Sp := (1, 10000)
def both (a b : Sp) : Sp := (max a.1 b.1, min a.2 b.2)
def downI (n b : Int) : Int := n / b
def upI (n b : Int) : Int := -((-n) / b)
theorem down_abs (n b : Int) (hb : 0 < b) (h1 : -1000000000 ≤ n) (h2 : n ≤ 1000000000) : -1000000000 ≤ n / b ∧ n / b ≤ 1000000000 := by
  constructor
  · exact (Int.le_ediv_iff_mul_le hb).2 (by omega)
  · have : n / b < 1000000001 := (Int.ediv_lt_iff_lt_mul hb).2 (by omega)
    omega
theorem down_any (n b : Int) (w : World) (hb : 0 < b) (hb2 : b ≤ 1000000) (h1 : -1000000000 ≤ n) (h2 : n ≤ 1000000000) :
    Calls Try.prog 106 #[.int .i64 n, .int .i64 b] w fun e w' => e = .returned (.int .i64 (downI n b)) ∧ w = w' := by
  have hd := down_eq n b hb
  have ha := down_abs n b hb h1 h2
  have hz : (b == 0) = false := by simp; omega
  by_cases h : n.tmod b < 0
  · rw [if_pos h] at hd
    have hr : -1000000000 ≤ n.tdiv b - 1 ∧ n.tdiv b - 1 ≤ 1000000000 := by omega
    have HD := Lib.hid hd
    clear hd ha
    go_enter Try.func106, Try.ntmps106
    go_wp2
    go_ret
    exact ⟨ret_int HD.out, rfl⟩
  · rw [if_neg h] at hd
    have hr : -1000000000 ≤ n.tdiv b ∧ n.tdiv b ≤ 1000000000 := by omega
    have HD := Lib.hid hd
    clear hd ha
    go_enter Try.func106, Try.ntmps106
    go_wp2
    go_ret
    exact ⟨ret_int HD.out, rfl⟩
theorem up_any (n b : Int) (w : World) (hb : 0 < b) (hb2 : b ≤ 1000000) (h1 : -1000000000 ≤ n) (h2 : n ≤ 1000000000) :
    Calls Try.prog 105 #[.int .i64 n, .int .i64 b] w fun e w' => e = .returned (.int .i64 (upI n b)) ∧ w = w' := by
  have ha := down_abs (-n) b hb (by omega) (by omega)
  have C := Lib.hid (down_any (-n) b w hb hb2 (by omega) (by omega))
  have hr : upI n b = -(downI (-n) b) := rfl
  have hd : -1000000000 ≤ downI (-n) b ∧ downI (-n) b ≤ 1000000000 := ha
  generalize downI (-n) b = d at *
  have HR := Lib.hid hr
  clear hr ha
  go_enter Try.func105, Try.ntmps105
  go_wp2_with ((with_reducible refine (C.out).mono ?_); rintro e w' ⟨rfl, rfl⟩)
  go_ret
  exact ⟨ret_int HR.out.symm, rfl⟩
theorem every_any (w : World) :
    Calls Try.prog 87 #[] w fun e w' => e = .returned (.agg #[.int .i64 1, .int .i64 10000]) ∧ Below w.heap.size w w' := by
  go_enter Try.func87, Try.ntmps87
  go_wp2
  exact bodyPost_ret (v := .agg #[.int .i64 1, .int .i64 10000]) (by simp [results, Try.results87, go_sem]) rfl ⟨rfl, balloc1 _ _⟩
theorem both_any (a b c d : Int) (w : World) :
    Calls Try.prog 86 #[.agg #[.int .i64 a, .int .i64 b], .agg #[.int .i64 c, .int .i64 d]] w fun e w' => e = .returned (.agg #[.int .i64 (max a c), .int .i64 (min b d)]) ∧ Below w.heap.size w w' := by
  go_enter Try.func86, Try.ntmps86
  go_wp2
  all_goals
    refine bodyPost_ret (v := .agg #[.int .i64 (max a c), .int .i64 (min b d)]) (by simp [results, Try.results86, go_sem]; try (simp only [Int.max_def, Int.min_def]; constructor <;> split <;> omega)) rfl ⟨rfl, balloc (balloc (balloc1 _ _) _) _⟩
def targetOf (w : Wi) (check : Nat) : Sp :=
  match check with
  | 0 => w.length | 1 => w.width | 2 => w.length | 3 => w.width | 4 => w.height | 5 => w.outer | 6 => w.inner | 7 => w.outer | _ => w.inner
theorem target_0 (l1 h1 l2 h2 l3 h3 l4 h4 l5 h5 : Int) (wo : Bool) (w : World) :
    Calls Try.prog 89 #[.agg #[.int .i64 l1, .int .i64 h1, .int .i64 l2, .int .i64 h2, .int .i64 l3, .int .i64 h3, .int .i64 l4, .int .i64 h4, .int .i64 l5, .int .i64 h5, .bool wo], .int .i64 0] w fun e w' => e = .returned (.agg #[.int .i64 l1, .int .i64 h1]) ∧ Below w.heap.size w w' := by
  go_enter Try.func89, Try.ntmps89
  go_wp2
  exact bodyPost_ret (v := .agg #[.int .i64 l1, .int .i64 h1]) (by simp [results, Try.results89, go_sem]) rfl ⟨rfl, balloc (balloc1 _ _) _⟩
theorem target_1 (l1 h1 l2 h2 l3 h3 l4 h4 l5 h5 : Int) (wo : Bool) (w : World) :
    Calls Try.prog 89 #[.agg #[.int .i64 l1, .int .i64 h1, .int .i64 l2, .int .i64 h2, .int .i64 l3, .int .i64 h3, .int .i64 l4, .int .i64 h4, .int .i64 l5, .int .i64 h5, .bool wo], .int .i64 1] w fun e w' => e = .returned (.agg #[.int .i64 l2, .int .i64 h2]) ∧ Below w.heap.size w w' := by
  go_enter Try.func89, Try.ntmps89
  go_wp2
  exact bodyPost_ret (v := .agg #[.int .i64 l2, .int .i64 h2]) (by simp [results, Try.results89, go_sem]) rfl ⟨rfl, balloc (balloc1 _ _) _⟩
theorem target_2 (l1 h1 l2 h2 l3 h3 l4 h4 l5 h5 : Int) (wo : Bool) (w : World) :
    Calls Try.prog 89 #[.agg #[.int .i64 l1, .int .i64 h1, .int .i64 l2, .int .i64 h2, .int .i64 l3, .int .i64 h3, .int .i64 l4, .int .i64 h4, .int .i64 l5, .int .i64 h5, .bool wo], .int .i64 2] w fun e w' => e = .returned (.agg #[.int .i64 l1, .int .i64 h1]) ∧ Below w.heap.size w w' := by
  go_enter Try.func89, Try.ntmps89
  go_wp2
  exact bodyPost_ret (v := .agg #[.int .i64 l1, .int .i64 h1]) (by simp [results, Try.results89, go_sem]) rfl ⟨rfl, balloc (balloc1 _ _) _⟩
theorem target_3 (l1 h1 l2 h2 l3 h3 l4 h4 l5 h5 : Int) (wo : Bool) (w : World) :
    Calls Try.prog 89 #[.agg #[.int .i64 l1, .int .i64 h1, .int .i64 l2, .int .i64 h2, .int .i64 l3, .int .i64 h3, .int .i64 l4, .int .i64 h4, .int .i64 l5, .int .i64 h5, .bool wo], .int .i64 3] w fun e w' => e = .returned (.agg #[.int .i64 l2, .int .i64 h2]) ∧ Below w.heap.size w w' := by
  go_enter Try.func89, Try.ntmps89
  go_wp2
  exact bodyPost_ret (v := .agg #[.int .i64 l2, .int .i64 h2]) (by simp [results, Try.results89, go_sem]) rfl ⟨rfl, balloc (balloc1 _ _) _⟩
theorem target_4 (l1 h1 l2 h2 l3 h3 l4 h4 l5 h5 : Int) (wo : Bool) (w : World) :
    Calls Try.prog 89 #[.agg #[.int .i64 l1, .int .i64 h1, .int .i64 l2, .int .i64 h2, .int .i64 l3, .int .i64 h3, .int .i64 l4, .int .i64 h4, .int .i64 l5, .int .i64 h5, .bool wo], .int .i64 4] w fun e w' => e = .returned (.agg #[.int .i64 l3, .int .i64 h3]) ∧ Below w.heap.size w w' := by
  go_enter Try.func89, Try.ntmps89
  go_wp2
  exact bodyPost_ret (v := .agg #[.int .i64 l3, .int .i64 h3]) (by simp [results, Try.results89, go_sem]) rfl ⟨rfl, balloc (balloc1 _ _) _⟩
theorem target_5 (l1 h1 l2 h2 l3 h3 l4 h4 l5 h5 : Int) (wo : Bool) (w : World) :
    Calls Try.prog 89 #[.agg #[.int .i64 l1, .int .i64 h1, .int .i64 l2, .int .i64 h2, .int .i64 l3, .int .i64 h3, .int .i64 l4, .int .i64 h4, .int .i64 l5, .int .i64 h5, .bool wo], .int .i64 5] w fun e w' => e = .returned (.agg #[.int .i64 l4, .int .i64 h4]) ∧ Below w.heap.size w w' := by
  go_enter Try.func89, Try.ntmps89
  go_wp2
  exact bodyPost_ret (v := .agg #[.int .i64 l4, .int .i64 h4]) (by simp [results, Try.results89, go_sem]) rfl ⟨rfl, balloc (balloc1 _ _) _⟩
theorem target_6 (l1 h1 l2 h2 l3 h3 l4 h4 l5 h5 : Int) (wo : Bool) (w : World) :
    Calls Try.prog 89 #[.agg #[.int .i64 l1, .int .i64 h1, .int .i64 l2, .int .i64 h2, .int .i64 l3, .int .i64 h3, .int .i64 l4, .int .i64 h4, .int .i64 l5, .int .i64 h5, .bool wo], .int .i64 6] w fun e w' => e = .returned (.agg #[.int .i64 l5, .int .i64 h5]) ∧ Below w.heap.size w w' := by
  go_enter Try.func89, Try.ntmps89
  go_wp2
  exact bodyPost_ret (v := .agg #[.int .i64 l5, .int .i64 h5]) (by simp [results, Try.results89, go_sem]) rfl ⟨rfl, balloc (balloc1 _ _) _⟩
theorem target_7 (l1 h1 l2 h2 l3 h3 l4 h4 l5 h5 : Int) (wo : Bool) (w : World) :
    Calls Try.prog 89 #[.agg #[.int .i64 l1, .int .i64 h1, .int .i64 l2, .int .i64 h2, .int .i64 l3, .int .i64 h3, .int .i64 l4, .int .i64 h4, .int .i64 l5, .int .i64 h5, .bool wo], .int .i64 7] w fun e w' => e = .returned (.agg #[.int .i64 l4, .int .i64 h4]) ∧ Below w.heap.size w w' := by
  go_enter Try.func89, Try.ntmps89
  go_wp2
  exact bodyPost_ret (v := .agg #[.int .i64 l4, .int .i64 h4]) (by simp [results, Try.results89, go_sem]) rfl ⟨rfl, balloc (balloc1 _ _) _⟩
theorem target_8 (l1 h1 l2 h2 l3 h3 l4 h4 l5 h5 : Int) (wo : Bool) (w : World) :
    Calls Try.prog 89 #[.agg #[.int .i64 l1, .int .i64 h1, .int .i64 l2, .int .i64 h2, .int .i64 l3, .int .i64 h3, .int .i64 l4, .int .i64 h4, .int .i64 l5, .int .i64 h5, .bool wo], .int .i64 8] w fun e w' => e = .returned (.agg #[.int .i64 l5, .int .i64 h5]) ∧ Below w.heap.size w w' := by
  go_enter Try.func89, Try.ntmps89
  go_wp2
  exact bodyPost_ret (v := .agg #[.int .i64 l5, .int .i64 h5]) (by simp [results, Try.results89, go_sem]) rfl ⟨rfl, balloc (balloc1 _ _) _⟩
theorem target_any (l1 h1 l2 h2 l3 h3 l4 h4 l5 h5 : Int) (wo : Bool) (k : Nat) (hk : k < 9) (w : World) :
    Calls Try.prog 89 #[.agg #[.int .i64 l1, .int .i64 h1, .int .i64 l2, .int .i64 h2, .int .i64 l3, .int .i64 h3, .int .i64 l4, .int .i64 h4, .int .i64 l5, .int .i64 h5, .bool wo], .int .i64 k] w fun e w' => e = .returned (.agg #[.int .i64 (targetOf ⟨(l1, h1), (l2, h2), (l3, h3), (l4, h4), (l5, h5), wo⟩ k).1, .int .i64 (targetOf ⟨(l1, h1), (l2, h2), (l3, h3), (l4, h4), (l5, h5), wo⟩ k).2]) ∧ Below w.heap.size w w' := by
  match k, hk with
  | 0, _ => exact target_0 l1 h1 l2 h2 l3 h3 l4 h4 l5 h5 wo w
  | 1, _ => exact target_1 l1 h1 l2 h2 l3 h3 l4 h4 l5 h5 wo w
  | 2, _ => exact target_2 l1 h1 l2 h2 l3 h3 l4 h4 l5 h5 wo w
  | 3, _ => exact target_3 l1 h1 l2 h2 l3 h3 l4 h4 l5 h5 wo w
  | 4, _ => exact target_4 l1 h1 l2 h2 l3 h3 l4 h4 l5 h5 wo w
  | 5, _ => exact target_5 l1 h1 l2 h2 l3 h3 l4 h4 l5 h5 wo w
  | 6, _ => exact target_6 l1 h1 l2 h2 l3 h3 l4 h4 l5 h5 wo w
  | 7, _ => exact target_7 l1 h1 l2 h2 l3 h3 l4 h4 l5 h5 wo w
  | 8, _ => exact target_8 l1 h1 l2 h2 l3 h3 l4 h4 l5 h5 wo w
def amongOf (m : Int × Int) (s : Sp) : Sp := both every (upI (1000 * (m.1 - s.2)) m.2, downI (1000 * (m.1 - s.1)) m.2)
theorem among_any (x y lo hi : Int) (w : World) (r1 : -10000 ≤ x) (r2 : x ≤ 10000) (r3 : 1 ≤ y) (r4 : y ≤ 10) (r5 : -10000 ≤ lo) (r6 : lo ≤ 10000) (r7 : -10000 ≤ hi) (r8 : hi ≤ 10000) :
    Calls Try.prog 88 #[.agg #[.int .i64 x, .int .i64 y], .agg #[.int .i64 lo, .int .i64 hi]] w fun e w' => e = .returned (.agg #[.int .i64 (amongOf (x, y) (lo, hi)).1, .int .i64 (amongOf (x, y) (lo, hi)).2]) ∧ Below w.heap.size w w' := by
  have w1 : IntKind.i64.wrap (x - hi) = x - hi := IntWalk.i64_in _ (by omega)
  have w2 : IntKind.i64.wrap (1000 * (x - hi)) = 1000 * (x - hi) := IntWalk.i64_in _ (by omega)
  have w3 : IntKind.i64.wrap (x - lo) = x - lo := IntWalk.i64_in _ (by omega)
  have w4 : IntKind.i64.wrap (1000 * (x - lo)) = 1000 * (x - lo) := IntWalk.i64_in _ (by omega)
  go_enter Try.func88, Try.ntmps88
  go_wp2_with fail
  have fB : Below w.heap.size w (((w.alloc (.cells #[.int .i64 x, .int .i64 y] 144)).alloc (.cells #[.int .i64 lo, .int .i64 hi] 62)).alloc (.cells #[.int .i64 0, .int .i64 0] 62)) := (by repeat (first | exact Below.refl _ _ | assumption | apply Below.drew | (refine balloc ?_ _)))
  have fX : (((w.alloc (.cells #[.int .i64 x, .int .i64 y] 144)).alloc (.cells #[.int .i64 lo, .int .i64 hi] 62)).alloc (.cells #[.int .i64 0, .int .i64 0] 62)).heap[w.heap.size]? = some (.cells #[.int .i64 x, .int .i64 y] 144 (0, 0)) := blk_past (blk_past (blk_new rfl))
  have fY : (((w.alloc (.cells #[.int .i64 x, .int .i64 y] 144)).alloc (.cells #[.int .i64 lo, .int .i64 hi] 62)).alloc (.cells #[.int .i64 0, .int .i64 0] 62)).heap[w.heap.size + 1]? = some (.cells #[.int .i64 lo, .int .i64 hi] 62 (0, 0)) := blk_past (blk_new (by simp))
  have fZ : (((w.alloc (.cells #[.int .i64 x, .int .i64 y] 144)).alloc (.cells #[.int .i64 lo, .int .i64 hi] 62)).alloc (.cells #[.int .i64 0, .int .i64 0] 62)).heap[w.heap.size + 1 + 1]? = some (.cells #[.int .i64 0, .int .i64 0] 62 (0, 0)) := blk_new (by simp)
  have fs : w.heap.size + 1 + 1 < (((w.alloc (.cells #[.int .i64 x, .int .i64 y] 144)).alloc (.cells #[.int .i64 lo, .int .i64 hi] 62)).alloc (.cells #[.int .i64 0, .int .i64 0] 62)).heap.size := by simp
  generalize (((w.alloc (.cells #[.int .i64 x, .int .i64 y] 144)).alloc (.cells #[.int .i64 lo, .int .i64 hi] 62)).alloc (.cells #[.int .i64 0, .int .i64 0] 62)) = W at fB fX fY fZ fs ⊢
  have x0 : W.cell? ⟨w.heap.size, 0, none⟩ = some (.int .i64 x) := Joins.cell_of_block fX 0
  have x1 : W.cell? ⟨w.heap.size, 1, none⟩ = some (.int .i64 y) := Joins.cell_of_block fX 1
  have x2 : W.cell? ⟨w.heap.size + 1, 0, none⟩ = some (.int .i64 lo) := Joins.cell_of_block fY 0
  have x3 : W.cell? ⟨w.heap.size + 1, 1, none⟩ = some (.int .i64 hi) := Joins.cell_of_block fY 1
  have FZ := Lib.hid fZ; have FB := Lib.hid fB
  clear fX fY fZ fB
  go_region_held3 (fun w' => w'.cell? ⟨w.heap.size, 0, none⟩ = some (.int .i64 x) ∧ w'.cell? ⟨w.heap.size, 1, none⟩ = some (.int .i64 y) ∧ w'.cell? ⟨w.heap.size + 1, 0, none⟩ = some (.int .i64 lo) ∧ w'.cell? ⟨w.heap.size + 1, 1, none⟩ = some (.int .i64 hi))
    (first
      | (refine ⟨(Below.cell (B := W.heap.size) (w := W) ?_ (by show w.heap.size < _; omega)).trans x0, (Below.cell (B := W.heap.size) (w := W) ?_ (by show w.heap.size < _; omega)).trans x1, (Below.cell (B := W.heap.size) (w := W) ?_ (by show w.heap.size + 1 < _; omega)).trans x2, (Below.cell (B := W.heap.size) (w := W) ?_ (by show w.heap.size + 1 < _; omega)).trans x3⟩ <;> (repeat (first | exact Below.refl _ _ | assumption | apply Below.drew | refine balloc ?_ _)); done)
      | (refine ⟨((cell_set_other _ _ _ _ ?_).trans ((cell_set_other _ _ _ _ ?_).trans ((Below.cell (B := W.heap.size) (w := W) hbd (by show w.heap.size < _; omega)).trans x0))), ((cell_set_other _ _ _ _ ?_).trans ((cell_set_other _ _ _ _ ?_).trans ((Below.cell (B := W.heap.size) (w := W) hbd (by show w.heap.size < _; omega)).trans x1))), ((cell_set_other _ _ _ _ ?_).trans ((cell_set_other _ _ _ _ ?_).trans ((Below.cell (B := W.heap.size) (w := W) hbd (by show w.heap.size + 1 < _; omega)).trans x2))), ((cell_set_other _ _ _ _ ?_).trans ((cell_set_other _ _ _ _ ?_).trans ((Below.cell (B := W.heap.size) (w := W) hbd (by show w.heap.size + 1 < _; omega)).trans x3)))⟩ <;> (first | (show w.heap.size + 1 + 1 ≠ w.heap.size; omega) | (show w.heap.size + 1 + 1 ≠ w.heap.size + 1; omega)))
      | go_keep)
    (first
      | (go_at_call 87; (with_reducible refine (every_any _).mono ?_); rintro e wa ⟨rfl, hx⟩; have hba : Below W.heap.size W wa := bnext (by repeat (first | exact Below.refl _ _ | assumption | apply Below.drew | (refine balloc ?_ _))) hx; clear hx)
      | (go_at_call 105; (with_reducible refine (up_any _ _ _ (by omega) (by omega) (by omega) (by omega)).mono ?_); rintro e wb ⟨rfl, rfl⟩)
      | (go_at_call 106; (with_reducible refine (down_any _ _ _ (by omega) (by omega) (by omega) (by omega)).mono ?_); rintro e wc ⟨rfl, rfl⟩)
      | (go_at_call 86; (with_reducible refine (both_any _ _ _ _ _).mono ?_); rintro e wd ⟨rfl, hx⟩; have hbd : Below W.heap.size W wd := bnext (by repeat (first | exact Below.refl _ _ | assumption | apply Below.drew | (refine balloc ?_ _))) hx; clear hx; have z0 := Joins.cell_of_block ((hbd.block _ fs).trans FZ.out) 0; have z1 := Joins.cell_of_block ((hbd.block _ fs).trans FZ.out) 1; have u0 := Joins.unfrozen_of_block ((hbd.block _ fs).trans FZ.out) 0; have u1 := Joins.unfrozen_of_block ((hbd.block _ fs).trans FZ.out) 1))
  clear x0 x1 x2 x3 w1 w2 w3 w4
  go_wp2
  refine bodyPost_ret (v := .agg #[.int .i64 (max 1 (upI (1000 * (x - hi)) y)), .int .i64 (min 10000 (downI (1000 * (x - lo)) y))]) (by simp [results, Try.results88, go_sem, *]) rfl ⟨rfl, ?_⟩
  exact ((bnext FB.out hbd).setCell (by show w.heap.size ≤ w.heap.size + 1 + 1; omega) _).setCell (by show w.heap.size ≤ w.heap.size + 1 + 1; omega) _
end Go.Proofs.Ytolnpbpeifpbjaa
