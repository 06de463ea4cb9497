/- Part of the proof: what the claim leans on. -/
import Derived.Test.YtiocklgakklkpaaLAW
import Derived.Test.YtiocklgakklkpaaLAF
import Derived.Test.YtiocklgakklkpaaLAG
import Derived.Test.YtiocklgakklkpaaLAT
import Derived.Test.YtiocklgakklkpaaLAU
import Derived.Test.YtiocklgakklkpaaLAV
import Derived.Test.YtiocklgakklkpaaLAB
set_option linter.unusedSimpArgs false
set_option linter.unusedVariables false
namespace Go.Proofs.Ytiocklgakklkpaa
open Go.RowKit
end Go.Proofs.Ytiocklgakklkpaa
namespace Go.Proofs.Ytiocklgakklkpaa
open Go.RowKit
def insideB (b : Bl) (c x y z : Int) : Bool := ((decide (1000 * x ≤ min (panR b 0 c) (panR b 2 c)) && decide (1000 * y ≤ min (panR b 1 c) (panR b 3 c))) && decide (1000 * z ≤ heightR b c)) || (((decide (1000 * x ≤ min (panR b 0 c) (panR b 2 c)) && decide (1000 * z ≤ min (panR b 1 c) (panR b 3 c))) && decide (1000 * y ≤ heightR b c)) || (((decide (1000 * y ≤ min (panR b 0 c) (panR b 2 c)) && decide (1000 * x ≤ min (panR b 1 c) (panR b 3 c))) && decide (1000 * z ≤ heightR b c)) || (((decide (1000 * y ≤ min (panR b 0 c) (panR b 2 c)) && decide (1000 * z ≤ min (panR b 1 c) (panR b 3 c))) && decide (1000 * x ≤ heightR b c)) || (((decide (1000 * z ≤ min (panR b 0 c) (panR b 2 c)) && decide (1000 * x ≤ min (panR b 1 c) (panR b 3 c))) && decide (1000 * y ≤ heightR b c)) || (((decide (1000 * z ≤ min (panR b 0 c) (panR b 2 c)) && decide (1000 * y ≤ min (panR b 1 c) (panR b 3 c))) && decide (1000 * x ≤ heightR b c)))))))
end Go.Proofs.Ytiocklgakklkpaa
namespace Go.Proofs.Ytiocklgakklkpaa
open Go.RowKit
theorem sort3 (x y z : Int) : sortI [x, y, z] = if x ≤ y then (if y ≤ z then [x, y, z] else if x ≤ z then [x, z, y] else [z, x, y]) else (if x ≤ z then [y, x, z] else if y ≤ z then [y, z, x] else [z, y, x]) := by
  by_cases h1 : x ≤ y <;> by_cases h2 : y ≤ z <;> by_cases h3 : x ≤ z <;> first | (exfalso; omega) | simp [sortI, List.mergeSort, List.MergeSort.Internal.splitInTwo, List.merge, h1, h2, h3]
theorem inside_fits (b : Bl) (c x y z : Int) : insideB b c x y z = fitsOf b c [x, y, z] := by
  have e : roomOf b c = [min (panR b 0 c) (panR b 2 c), min (panR b 1 c) (panR b 3 c), heightR b c] := by
    unfold roomOf withM meas measOf panR heightR foldsOf
    cases b.isOpen <;> simp <;> omega
  unfold fitsOf insideB
  rw [e, show [x, y, z].map (1000 * ·) = [1000 * x, 1000 * y, 1000 * z] from rfl]
  generalize 1000 * x = X; generalize 1000 * y = Y; generalize 1000 * z = Z
  generalize min (panR b 0 c) (panR b 2 c) = L; generalize min (panR b 1 c) (panR b 3 c) = M; generalize heightR b c = N
  rw [Bool.eq_iff_iff]
  simp only [Bool.or_eq_true, Bool.and_eq_true, decide_eq_true_eq, sort3]
  (repeat' split) <;> simp <;> omega
theorem holds_e5 {b : Bl} {s : Sp} {l : List Int} (h : checkErr b = 0) (h2 : isSpan s 1 10000 = true) (h3 : l.length = 3) (h4 : areLong 0 l = true) : holdsErr b s l = 0 := by simp [holdsErr, checkedErr, h, h2, h3, h4]
end Go.Proofs.Ytiocklgakklkpaa
namespace Go.Proofs.Ytiocklgakklkpaa
open Go.RowKit
end Go.Proofs.Ytiocklgakklkpaa
namespace Go.Proofs.Ytiocklgakklkpaa
open Go.RowKit
theorem panels_at {b : Bl} (h : checkErr b = 0) {i : Nat} (hi : i < 4) : i < b.panels.length := by
  obtain ⟨⟨l1, -, -⟩, -⟩ := good_nums h
  omega
theorem play_len {b d : Bl} {s t : Sp} (h : checkErr b = 0) (k : checkErr d = 0) : (playL b d s t).length = 4 := by
  obtain ⟨⟨l1, -, -⟩, -⟩ := good_nums h
  obtain ⟨⟨l2, -, -⟩, -⟩ := good_nums k
  simp [playL, l1, l2]
theorem play_nth {b d : Bl} {x1 y1 x2 y2 : Int} (h : checkErr b = 0) (k : checkErr d = 0) {i : Nat} (hi : i < 4) : nthP (playL b d (x1, y1) (x2, y2)) i = (1000 * (b.panels.getD i 0 - d.panels.getD i 0) - y1 - y2, 1000 * (b.panels.getD i 0 - d.panels.getD i 0) - x1 - x2) := by
  have hb := panels_at h hi
  have hd := panels_at k hi
  simp only [nthP, playL, List.getD_eq_getElem?_getD, List.getElem?_zipWith, List.getElem?_eq_getElem hb, List.getElem?_eq_getElem hd, Option.getD_some]
theorem chk_e5 {b d : Bl} {s t : Sp} (h : checkErr b = 0) (h2 : checkErr d = 0) (h3 : isSpan s 1 10000 = true) (h4 : isSpan t 1 10000 = true) : checkedErr [b, d] [s, t] = 0 := by simp [checkedErr, h, h2, h3, h4]
theorem span_in {lo hi : Int} (h1 : 1 ≤ lo) (h2 : lo ≤ hi) (h3 : hi ≤ 10000) : isSpan (lo, hi) 1 10000 = true := isSpan_iff.2 ⟨h1, h2, h3⟩
theorem inside_yes {b : Bl} {c x y z : Int} (hx : 1000 * x ≤ min (panR b 0 c) (panR b 2 c)) (hy : 1000 * y ≤ min (panR b 1 c) (panR b 3 c)) (hz : 1000 * z ≤ heightR b c) : insideB b c x y z = true := by
  unfold insideB
  generalize 1000 * x = X at *; generalize 1000 * y = Y at *; generalize 1000 * z = Z at *
  generalize min (panR b 0 c) (panR b 2 c) = L at *; generalize min (panR b 1 c) (panR b 3 c) = M at *; generalize heightR b c = N at *
  simp only [Bool.or_eq_true, Bool.and_eq_true, decide_eq_true_eq]
  omega
theorem long3 {x y z : Int} (hx : 0 ≤ x ∧ x ≤ 3000) (hy : 0 ≤ y ∧ y ≤ 3000) (hz : 0 ≤ z ∧ z ≤ 3000) : areLong 0 [x, y, z] = true := by
  simp [areLong, within, hx, hy, hz]
theorem holds_in {u : Value} {b : Bl} {lo hi : Int} {a : Option Addr} {c : Nat} {x y z : Int} {s p : Bool} (w : World) (hB : Blk w u b) (hI : Ii w a 3 c [x, y, z]) (hck : checkErr b = 0) (h1 : 1 ≤ lo) (h2 : lo ≤ hi) (h3 : hi ≤ 10000) (hx : 0 ≤ x ∧ x ≤ 3000) (hy : 0 ≤ y ∧ y ≤ 3000) (hz : 0 ≤ z ∧ z ≤ 3000) (hs : insideB b hi x y z = s) (hp : insideB b lo x y z = p) :
    Calls Try.prog 16 #[u, .agg #[.int .i64 lo, .int .i64 hi], .slice a 3 c] w (fun e w' => e = .returned (.tuple #[.bool s, .bool p, .int .i64 0]) ∧ Below w.heap.size w w') := by
  refine (holds_any u b lo hi a 3 c [x, y, z] w hB hI).mono fun e w' h => ?_
  have e1 : e = .returned (.tuple #[.bool (if holdsErr b (lo, hi) [x, y, z] = 0 then fitsOf b hi [x, y, z] else false), .bool (if holdsErr b (lo, hi) [x, y, z] = 0 then fitsOf b lo [x, y, z] else false), .int .i64 (holdsErr b (lo, hi) [x, y, z])]) := h.1
  rw [holds_e5 hck (span_in h1 h2 h3) rfl (long3 hx hy hz), if_pos rfl, if_pos rfl, ← inside_fits, ← inside_fits, hs, hp] at e1
  exact ⟨e1, h.2⟩
theorem play_in {u v : Value} {b d : Bl} {x1 y1 x2 y2 : Int} {L : List Sp} (w : World) (hB : Blk w u b) (hD : Blk w v d) (hb : checkErr b = 0) (hd : checkErr d = 0) (h1 : 1 ≤ x1) (h2 : x1 ≤ y1) (h3 : y1 ≤ 10000) (h4 : 1 ≤ x2) (h5 : x2 ≤ y2) (h6 : y2 ≤ 10000) (hL : playL b d (x1, y1) (x2, y2) = L) :
    Calls Try.prog 12 #[u, v, .agg #[.int .i64 x1, .int .i64 y1], .agg #[.int .i64 x2, .int .i64 y2]] w (IsPpP L 0 w) := by
  have hE := chk_e5 hb hd (span_in h1 h2 h3) (span_in h4 h5 h6)
  refine (play_any u v b d x1 y1 x2 y2 w hB hD).mono fun e w' h => ?_
  obtain ⟨a, n, c, e1, h1, h2⟩ := h
  rw [hE] at e1
  rw [if_pos hE, hL] at h1
  exact ⟨_, e1, isPp_of h1, h2⟩
end Go.Proofs.Ytiocklgakklkpaa
namespace Go.Proofs.Ytiocklgakklkpaa
open Go.RowKit
theorem StoO.low {B B' : Nat} {ps : Nat → Pa} {qs : Nat → Fu} {v : Value} {W : World} (h : StoO B ps qs v W) (hB : B' ≤ B) : StoO B' ps qs v W := by
  obtain ⟨g1, c1, g2, c2, e, h1, h2⟩ := h
  exact ⟨g1, c1, g2, c2, e, h1.low hB, h2.low hB⟩
theorem BoO.low {B B' n m : Nat} {xs ys : List Int} {v : Value} {W : World} (h : BoO B n m xs ys v W) (hB : B' ≤ B) : BoO B' n m xs ys v W := by
  obtain ⟨g1, c1, g2, c2, e, h1, h2⟩ := h
  exact ⟨g1, c1, g2, c2, e, h1.low hB, h2.low hB⟩
theorem BoxO.low {B B' : Nat} {tb lg wd hh fp fq sl : Int} {v : Value} {W : World} (h : BoxO B tb lg wd hh fp fq sl v W) (hB : B' ≤ B) : BoxO B' tb lg wd hh fp fq sl v W := by
  obtain ⟨g1, c1, g2, c2, g3, c3, e, h1, h2, h3⟩ := h
  exact ⟨g1, c1, g2, c2, g3, c3, e, h1.low hB, h2.low hB, h3.low hB⟩
section
variable {B : Nat} {T : TypeId → Bool} {G : TypeId → Array Value → World → Prop}
end
end Go.Proofs.Ytiocklgakklkpaa
namespace Go.Proofs.Ytiocklgakklkpaa
open Go.RowKit
def tailC : Nat → Code → Code
  | n + 1, .seq _ b => tailC n b
  | _, c => c
def bodyC (f : Func) : Code := f.body.getD .skip
end Go.Proofs.Ytiocklgakklkpaa
