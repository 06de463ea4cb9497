/- Part of the proof: what the claim leans on. -/
import Derived.Test.YthnediamopehfaaWBA
import Derived.Test.YthnediamopehfaaWAP
import Derived.Test.YthnediamopehfaaWAL
import Derived.Test.YthnediamopehfaaWAQ
import Derived.Test.YthnediamopehfaaWAO
import Derived.Test.YthnediamopehfaaWAK
import Derived.Test.YthnediamopehfaaWAB
set_option linter.unusedSimpArgs false
set_option linter.unusedVariables false
namespace Go.Proofs.Ythnediamopehfaa
open Go.RowKit
theorem Sl.other {W W' : World} {g o n c b : Nat} {cs : List Value} (h : Sl W (some ⟨g, o, none⟩) n c cs) (hot : ∀ k x, k ≠ b → W.heap[k]? = some x → W'.heap[k]? = some x) (hg : g < W.heap.size) (hne : g ≠ b) (hz : W.heap.size ≤ W'.heap.size) : Sl W' (some ⟨g, o, none⟩) n c cs := by
  obtain ⟨h2, h3, h4, h5⟩ := h
  refine ⟨h2, h3, h4, ?_⟩
  rcases h5 with h5 | ⟨b', off, e, hlt, hc⟩
  · exact .inl h5
  · cases e
    refine .inr ⟨g, o, rfl, by omega, fun i hi => ?_⟩
    have hx : W.heap[g]? = some (W.heap[g]'hg) := Array.getElem?_eq_getElem hg
    have := World.cell?_of_block (w := W) (w' := W') (a := ⟨g, o + i, none⟩) (by show W'.heap[g]? = W.heap[g]?; rw [hot g _ hne hx, hx])
    exact this.trans (hc i hi)
theorem Pp.other {W W' : World} {g o n c b : Nat} {xs : List (Int × Int)} (h : Pp W (some ⟨g, o, none⟩) n c xs) (hot : ∀ k x, k ≠ b → W.heap[k]? = some x → W'.heap[k]? = some x) (hg : g < W.heap.size) (hne : g ≠ b) (hz : W.heap.size ≤ W'.heap.size) : Pp W' (some ⟨g, o, none⟩) n c xs :=
  ⟨h.1, h.2.other hot hg hne hz⟩
def IsPpL (n : Nat) (xs : List (Int × Int)) (v : Value) (W : World) : Prop := ∃ a o c, v = .slice (some ⟨a, o, none⟩) n c ∧ Pp W (some ⟨a, o, none⟩) n c xs ∧ a < W.heap.size
theorem IsPpL.below {n : Nat} {xs : List (Int × Int)} {v : Value} {W W' : World} (h : IsPpL n xs v W) (hb : Below W.heap.size W W') : IsPpL n xs v W' := by
  obtain ⟨a, o, c, e, h, hl⟩ := h; exact ⟨a, o, c, e, h.below hb (Nat.le_refl _), Nat.lt_of_lt_of_le hl hb.size⟩
theorem isPpL_of {W : World} {a : Option Addr} {n c : Nat} {l xs : List (Int × Int)} (h : Pp W a n c l) (e : l = xs) (hne : decide (0 < xs.length) = true) : IsPpL xs.length xs (.slice a n c) W := by
  subst e
  have hn := h.1
  subst hn
  obtain ⟨b, off, rfl, hl, -⟩ := h.at (of_decide_eq_true hne)
  exact ⟨b, off, c, rfl, h, hl⟩
theorem ppl_cell {W : World} {a o n c : Nat} {xs : List (Int × Int)} (h : Pp W (some ⟨a, o, none⟩) n c xs) (i : Nat) (hi : decide (i < xs.length) = true) :
    W.cell? ⟨a, o + i * 2, none⟩ = some (.int .i64 (xs.getD i (0, 0)).1) ∧ W.cell? ⟨a, o + i * 2 + 1, none⟩ = some (.int .i64 (xs.getD i (0, 0)).2) := by
  have hi' := of_decide_eq_true hi
  obtain ⟨b, off, e, -, hc⟩ := h.at (by omega)
  cases e
  exact hc i hi'
def IsIiL (n : Nat) (xs : List Int) (v : Value) (W : World) : Prop := ∃ a o c, v = .slice (some ⟨a, o, none⟩) n c ∧ Ii W (some ⟨a, o, none⟩) n c xs ∧ a < W.heap.size
theorem IsIiL.below {n : Nat} {xs : List Int} {v : Value} {W W' : World} (h : IsIiL n xs v W) (hb : Below W.heap.size W W') : IsIiL n xs v W' := by
  obtain ⟨a, o, c, e, h, hl⟩ := h; exact ⟨a, o, c, e, h.below hb (Nat.le_refl _), Nat.lt_of_lt_of_le hl hb.size⟩
theorem isIiL_of {W : World} {a : Option Addr} {n c : Nat} {l xs : List Int} (h : Ii W a n c l) (e : l = xs) (hne : decide (0 < xs.length) = true) : IsIiL xs.length xs (.slice a n c) W := by
  subst e
  have hn := h.1
  subst hn
  obtain ⟨b, off, rfl, hl, -⟩ := h.at (of_decide_eq_true hne)
  exact ⟨b, off, c, rfl, h, hl⟩
def wantB : Bl := ⟨35, [304, 204, 304, 204], 208, [101, 51], [101, 51], 4, false⟩
/-- A list's block is no block whose first cell holds something else. -/
theorem ii_ne {W : World} {g b n c : Nat} {xs r : List Int} {x : Int} {cells : Array Value} {t : TypeId} {o : Nat × Nat} {y : Value} (h : Ii W (some ⟨g, 0, none⟩) n c xs) (hb : W.heap[b]? = some (.cells cells t o)) (hx : xs = x :: r) (hy : cells[0]? = some y) (hxy : y ≠ .int .i64 x) : g ≠ b := by
  rintro rfl
  subst hx
  obtain ⟨b', off, e, -, hc⟩ := h.at (by simp)
  cases e
  have h1 := hc 0 (by simp)
  have h2 := Joins.cell_of_block hb 0
  rw [hy] at h2
  have h3 := h2.symm.trans h1
  simp at h3
  exact hxy h3
end Go.Proofs.Ythnediamopehfaa
namespace Go.Proofs.Ythnediamopehfaa
theorem good_nums {b : Bl} (h : checkErr b = 0) : (b.panels.length = 4 ∧ b.top.length = 2 ∧ b.bottom.length = 2) ∧ (0 ≤ b.tab ∧ b.tab ≤ 100) ∧ (0 ≤ b.slot ∧ b.slot ≤ 20) ∧ (1 ≤ b.height ∧ b.height ≤ 3000) ∧
    ((1 ≤ b.panels.getD 0 0 ∧ b.panels.getD 0 0 ≤ 3000) ∧ (1 ≤ b.panels.getD 1 0 ∧ b.panels.getD 1 0 ≤ 3000) ∧ (1 ≤ b.panels.getD 2 0 ∧ b.panels.getD 2 0 ≤ 3000) ∧ (1 ≤ b.panels.getD 3 0 ∧ b.panels.getD 3 0 ≤ 3000)) ∧
    ((0 ≤ b.top.getD 0 0 ∧ b.top.getD 0 0 ≤ 3000) ∧ (0 ≤ b.top.getD 1 0 ∧ b.top.getD 1 0 ≤ 3000) ∧ (0 ≤ b.bottom.getD 0 0 ∧ b.bottom.getD 0 0 ≤ 3000) ∧ (0 ≤ b.bottom.getD 1 0 ∧ b.bottom.getD 1 0 ≤ 3000)) := by
  obtain ⟨hF, ht, hs, hp, hh, -⟩ := fine_of_check h
  obtain ⟨p0, p1, p2, p3, t0, t1, u0, u1, e1, e2, e3, r0, r1, r2, r3, s0, s1, q0, q1, rh⟩ := hF
  rw [e1] at hp
  have a0 := hp p0 (by simp); have a1 := hp p1 (by simp); have a2 := hp p2 (by simp); have a3 := hp p3 (by simp)
  rw [e1, e2, e3]
  simp only [List.length_cons, List.length_nil, List.getD_cons_zero, List.getD_cons_succ, true_and]
  refine ⟨ht, hs, hh, ⟨a0, a1, a2, a3⟩, s0, s1, q0, q1⟩
end Go.Proofs.Ythnediamopehfaa
namespace Go.Proofs.Ythnediamopehfaa
open Go.RowKit
theorem pp_get {W : World} {aa : Option Addr} {a o n c : Nat} {xs : List Sp} (h : Pp W aa n c xs) (ha : aa = some ⟨a, o, none⟩) {i : Nat} (hi : i < xs.length) :
    W.cell? ⟨a, o + i * 2, none⟩ = some (.int .i64 (xs.getD i (0, 0)).1) ∧ W.cell? ⟨a, o + i * 2 + 1, none⟩ = some (.int .i64 (xs.getD i (0, 0)).2) := by
  subst ha
  obtain ⟨b, off, e', -, hc⟩ := h.at (by omega)
  cases e'
  exact hc i hi
theorem isPp_of {W : World} {a : Option Addr} {n c : Nat} {l : List Sp} (h : Pp W a n c l) : IsPp l (.slice a n c) W := by
  obtain rfl := h.1
  exact ⟨a, c, rfl, h⟩
theorem Pp.lim {W : World} {a : Option Addr} {n c : Nat} {xs : List Sp} (h : Pp W a n c xs) : ∀ g o, a = some ⟨g, o, none⟩ → xs ≠ [] → g < W.heap.size := by
  intro g o e hne
  obtain ⟨b, off, e', hl, -⟩ := h.at (List.length_pos_iff.2 hne)
  rw [e] at e'
  cases e'
  exact hl
theorem Pp.len_le {W : World} {a : Option Addr} {n c : Nat} {xs : List Sp} (h : Pp W a n c xs) : (xs.length : Int) ≤ 9223372036854775807 := by
  have h1 := h.1; have h2 := h.2.1; have h3 := h.2.2.1
  unfold maxLen at h3
  omega
theorem Pp.at' {W : World} {a : Option Addr} {n c : Nat} {xs : List Sp} (h : Pp W a n c xs) (hne : 0 < xs.length) : ∃ b off, a = some ⟨b, off, none⟩ := by
  obtain ⟨b, off, e, -⟩ := h.at hne
  exact ⟨b, off, e⟩
end Go.Proofs.Ythnediamopehfaa
namespace Go.Proofs.Ythnediamopehfaa
open Go.RowKit
/-- A blank whose lists have so many numbers. -/
def BlkN (b : Bl) (n1 n2 n3 : Nat) (v : Value) (W : World) : Prop :=
  ∃ a1 c1 a2 c2 a3 c3, v = .agg #[.int .i64 b.tab, .slice a1 n1 c1, .int .i64 b.height, .slice a2 n2 c2, .slice a3 n3 c3, .int .i64 b.slot, .bool b.isOpen] ∧ Ii W a1 n1 c1 b.panels ∧ Ii W a2 n2 c2 b.top ∧ Ii W a3 n3 c3 b.bottom
theorem BlkN.below {b : Bl} {n1 n2 n3 : Nat} {v : Value} {W W' : World} (h : BlkN b n1 n2 n3 v W) (hb : Below W.heap.size W W') : BlkN b n1 n2 n3 v W' := by
  obtain ⟨a1, c1, a2, c2, a3, c3, e, h1, h2, h3⟩ := h
  exact ⟨a1, c1, a2, c2, a3, c3, e, h1.below hb (Nat.le_refl _), h2.below hb (Nat.le_refl _), h3.below hb (Nat.le_refl _)⟩
end Go.Proofs.Ythnediamopehfaa
namespace Go.Proofs.Ythnediamopehfaa
theorem spanR_eq (lo hi least most : Int) : spanR lo hi least most = isSpan (lo, hi) least most := by
  unfold spanR isSpan within inB
  rw [Bool.eq_iff_iff]
  simp
  omega
theorem isSpan_iff {lo hi : Int} : isSpan (lo, hi) 1 10000 = true ↔ 1 ≤ lo ∧ lo ≤ hi ∧ hi ≤ 10000 := by
  rw [← spanR_eq]; unfold spanR inB; simp [and_assoc]
end Go.Proofs.Ythnediamopehfaa
namespace Go.Proofs.Ythnediamopehfaa
open Go.RowKit
/-- A number of a list of pairs. -/
def nthP (L : List (Int × Int)) (i : Nat) : Int × Int := L.getD i (0, 0)
/-- A sheet's numbers are bytes. -/
def ShIn (x : Sh) : Prop :=
  (0 ≤ x.x0 ∧ x.x0 ≤ 255) ∧ (0 ≤ x.x1 ∧ x.x1 ≤ 255) ∧ (0 ≤ x.x2 ∧ x.x2 ≤ 255) ∧ (0 ≤ x.x3 ∧ x.x3 ≤ 255) ∧ (0 ≤ x.xh ∧ x.xh ≤ 255) ∧ (0 ≤ x.y0 ∧ x.y0 ≤ 255) ∧ (0 ≤ x.y1 ∧ x.y1 ≤ 255) ∧ (0 ≤ x.y2 ∧ x.y2 ≤ 255) ∧ (0 ≤ x.y3 ∧ x.y3 ≤ 255) ∧
    (0 ≤ x.ca ∧ x.ca ≤ 255) ∧ (0 ≤ x.cb ∧ x.cb ≤ 255) ∧ (0 ≤ x.v0 ∧ x.v0 ≤ 255) ∧ (0 ≤ x.v1 ∧ x.v1 ≤ 255) ∧ (0 ≤ x.v2 ∧ x.v2 ≤ 255) ∧ (0 ≤ x.v3 ∧ x.v3 ≤ 255) ∧ (0 ≤ x.v4 ∧ x.v4 ≤ 255)
/-- A blank with four panels and two flaps at either end, as its numbers say. -/
theorem check_ok {tab p0 p1 p2 p3 hh t0 t1 u0 u1 sl : Int} {op : Bool} (gt : 0 ≤ tab ∧ tab ≤ 100) (gs : 0 ≤ sl ∧ sl ≤ 20) (gh : 1 ≤ hh ∧ hh ≤ 3000) (g0 : 1 ≤ p0 ∧ p0 ≤ 3000) (g1 : 1 ≤ p1 ∧ p1 ≤ 3000) (g2 : 1 ≤ p2 ∧ p2 ≤ 3000) (g3 : 1 ≤ p3 ∧ p3 ≤ 3000)
    (t0' : 0 ≤ t0 ∧ t0 ≤ 3000) (t1' : 0 ≤ t1 ∧ t1 ≤ 3000) (u0' : 0 ≤ u0 ∧ u0 ≤ 3000) (u1' : 0 ≤ u1 ∧ u1 ≤ 3000) (ho : op = true → t0 = 0 ∧ t1 = 0) : checkErr ⟨tab, [p0, p1, p2, p3], hh, [t0, t1], [u0, u1], sl, op⟩ = 0 := by
  unfold checkErr
  rw [if_neg, if_neg, if_neg]
  · simp only [Bool.and_eq_true, Bool.not_eq_true', not_and, Bool.not_eq_false, within]
    intro h
    obtain ⟨rfl, rfl⟩ := ho h
    decide
  · simp [numsOk, within, areLong]; omega
  · simp [lensOk]
theorem shBl_ok {x : Sh} (h : ShIn x) : checkErr (shBl x) = 0 := by
  obtain ⟨h0, h1, h2, h3, hh, a0, a1, a2, a3, -⟩ := h
  refine check_ok (by omega) (by omega) (by omega) (by omega) (by omega) (by omega) (by omega) ?_ ?_ (by omega) (by omega) fun e => by simp [e]
  · split <;> omega
  · split <;> omega
theorem shCal_in {x : Sh} (h : ShIn x) : 1 ≤ (shCal x).1 ∧ (shCal x).1 ≤ (shCal x).2 ∧ (shCal x).2 ≤ 10000 := by
  obtain ⟨-, -, -, -, -, -, -, -, -, a, b, -⟩ := h
  unfold shCal; simp only; omega
end Go.Proofs.Ythnediamopehfaa
namespace Go.Proofs.Ythnediamopehfaa
open Go.RowKit
theorem osure {P : Program} {ops : Array Oper} {Q : Exit → Act → World → Prop} {i j : Nat} {want : Bool} {a : Act} {W : World} {r : Value → World → Prop} {o : Oper} (ho : ops[i]? = some o) (hg : o.guard = some (j, want)) (hy : yielded ops a.tmps j = some want)
    (h : ∀ K : Act → World → Prop, (∀ v W', Below W.heap.size W W' → r v W' → K (a.put o.dst v) W') → o.wp P a W K Q) : OpDo P ops Q i a W r := by
  intro K hK
  unfold wpOp
  simp only [ho, Region.wanted, hg, hy]
  rw [ho] at hK
  rw [if_pos (by simp)]
  exact .inl (h K hK)
end Go.Proofs.Ythnediamopehfaa
