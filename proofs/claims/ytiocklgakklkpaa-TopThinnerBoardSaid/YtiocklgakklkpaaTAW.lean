/- Part of the proof: what the claim leans on. -/
import Derived.Test.YtiocklgakklkpaaTAG
import Derived.Test.YtiocklgakklkpaaTAV
import Derived.Test.YtiocklgakklkpaaTAH
import Derived.Test.YtiocklgakklkpaaTAF
import Derived.Test.YtiocklgakklkpaaTAS
import Derived.Test.YtiocklgakklkpaaTAT
import Derived.Test.YtiocklgakklkpaaTAU
import Derived.Test.YtiocklgakklkpaaTAB
set_option linter.unusedSimpArgs false
set_option linter.unusedVariables false
namespace Go.Proofs.Ytiocklgakklkpaa
open Go.RowKit
end Go.Proofs.Ytiocklgakklkpaa
namespace Go.Proofs.Ytiocklgakklkpaa
open Go.RowKit
theorem pp_nth {W : World} {aa : Option Addr} {a o n c : Nat} {xs : List Sp} (h : Pp W aa n c xs) (ha : aa = some ⟨a, o, none⟩) {i : Nat} (hi : i < xs.length) :
    W.cell? ⟨a, o + i * 2, none⟩ = some (.int .i64 (nthP xs i).1) ∧ W.cell? ⟨a, o + i * 2 + 1, none⟩ = some (.int .i64 (nthP xs i).2) := pp_get h ha hi
def IsPpP (L : List Sp) (er : Int) (w : World) (e : Ending) (w' : World) : Prop := ∃ x, e = .returned (.tuple #[x, .int .i64 er]) ∧ IsPp L x w' ∧ Below w.heap.size w w'
end Go.Proofs.Ytiocklgakklkpaa
namespace Go.Proofs.Ytiocklgakklkpaa
open Go.RowKit
end Go.Proofs.Ytiocklgakklkpaa
namespace Go.Proofs.Ytiocklgakklkpaa
open Go.RowKit
end Go.Proofs.Ytiocklgakklkpaa
namespace Go.Proofs.Ytiocklgakklkpaa
open Go.RowKit
/-- A measure in micrometres. -/
def mic (b : Bl) (c : Int) (i : Nat) : Int := (microsOf b c).getD i 0
/-- What Inner returns of a valid blank without an error of its measures. -/
theorem clamp_id {least n : Int} (h1 : least ≤ n) (h2 : n ≤ 3000) : clamp least 0 n = n := by unfold clamp; omega
theorem offB_id {b : Bl} (h : checkErr b = 0) : offB b 0 0 = b := by
  obtain ⟨⟨hl1, hl2, hl3⟩, -, -, gh, ⟨gp0, gp1, gp2, gp3⟩, gt0, gt1, gu0, gu1⟩ := good_nums h
  obtain ⟨tab, panels, hh, top, bottom, sl, op⟩ := b
  obtain ⟨p0, p1, p2, p3, rfl⟩ := list_four hl1
  obtain ⟨t0, t1, rfl⟩ := list_two hl2
  obtain ⟨u0, u1, rfl⟩ := list_two hl3
  simp only [List.getD_cons_zero, List.getD_cons_succ] at gp0 gp1 gp2 gp3 gt0 gt1 gu0 gu1 gh
  unfold offB
  simp only [List.map_cons, List.map_nil]
  rw [clamp_id gp0.1 gp0.2, clamp_id gp1.1 gp1.2, clamp_id gp2.1 gp2.2, clamp_id gp3.1 gp3.2, clamp_id gh.1 gh.2, clamp_id gu0.1 gu0.2, clamp_id gu1.1 gu1.2, clamp_id gt0.1 gt0.2, clamp_id gt1.1 gt1.2]
  cases op <;> rfl
theorem innerL_zero {b : Bl} (h : checkErr b = 0) (lo hi : Int) : innerL b (lo, hi) 0 = (meas b).map fun m => (1000 * m.1 - m.2 * hi, 1000 * m.1 - m.2 * lo) := by
  unfold innerL
  rw [show -(0 : Int) = 0 from rfl, offB_id h, List.zipWith_self]
theorem inner_at {b : Bl} (h : checkErr b = 0) (lo hi : Int) {i : Nat} (hi9 : i < 9) : nthP (innerL b (lo, hi) 0) i = (mic b hi i, mic b lo i) := by
  rw [innerL_zero h]
  unfold nthP mic microsOf meas measOf foldsOf
  match i, hi9 with
  | 0, _ => simp
  | 1, _ => simp
  | 2, _ => simp
  | 3, _ => simp
  | 4, _ => cases b.isOpen <;> simp <;> omega
  | 5, _ => simp; omega
  | 6, _ => simp; omega
  | 7, _ => simp; omega
  | 8, _ => simp; omega
theorem inner_len {b : Bl} (h : checkErr b = 0) (lo hi : Int) : (innerL b (lo, hi) 0).length = 9 := by
  rw [innerL_zero h]; rfl
theorem mic_le (b : Bl) {lo hi : Int} (h : lo ≤ hi) (i : Nat) : mic b hi i ≤ mic b lo i := micros_le b h i
theorem innerErr_ok {b : Bl} (h : checkErr b = 0) {lo hi off : Int} (h3 : 1 ≤ lo) (h4 : lo ≤ hi) (h5 : hi ≤ 10000) (h6 : 0 ≤ off) (h7 : off ≤ 5) : innerErr b (lo, hi) off = 0 := by
  have : isSpan (lo, hi) 1 10000 = true := by
    unfold isSpan within
    simp only [List.any_cons, List.any_nil, Bool.or_false, Bool.and_eq_true, Bool.not_eq_true', Bool.or_eq_false_iff, decide_eq_false_iff_not, decide_eq_true_eq]
    omega
  have h8 : within 0 5 [off] = true := by unfold within; simp; omega
  unfold innerErr checkedErr checkedErr
  simp [h, this, h8]
/-- A panel that stands beside no flap, longer by some. -/
def longer (b : Bl) (i : Nat) (n : Int) : Bl := { b with panels := b.panels.set i n }
end Go.Proofs.Ytiocklgakklkpaa
namespace Go.Proofs.Ytiocklgakklkpaa
open Go.RowKit
end Go.Proofs.Ytiocklgakklkpaa
namespace Go.Proofs.Ytiocklgakklkpaa
open Go.RowKit
theorem inner_ok {u : Value} {b : Bl} (lo hi off : Int) (w : World) (hB : Blk w u b) (hck : checkErr b = 0) (h1 : 1 ≤ lo) (h2 : lo ≤ hi) (h3 : hi ≤ 10000) (h4 : 0 ≤ off) (h5 : off ≤ 5) : Calls Try.prog 21 #[u, .agg #[.int .i64 lo, .int .i64 hi], .int .i64 off] w (IsPpP (innerL b (lo, hi) off) 0 w) := by
  have hE := innerErr_ok hck h1 h2 h3 h4 h5
  refine (inner_any u b lo hi off w hB (by omega) (by omega)).mono fun e w' h => ?_
  obtain ⟨a, n, c, e1, h1, h2⟩ := h
  rw [hE] at e1
  rw [if_pos hE] at h1
  exact ⟨_, e1, isPp_of h1, h2⟩
end Go.Proofs.Ytiocklgakklkpaa
namespace Go.Proofs.Ytiocklgakklkpaa
open Go.RowKit
def insideB (b : Bl) (c x y z : Int) : Bool := ((decide (1000 * x ≤ min (panR b 0 c) (panR b 2 c)) && decide (1000 * y ≤ min (panR b 1 c) (panR b 3 c))) && decide (1000 * z ≤ heightR b c)) || (((decide (1000 * x ≤ min (panR b 0 c) (panR b 2 c)) && decide (1000 * z ≤ min (panR b 1 c) (panR b 3 c))) && decide (1000 * y ≤ heightR b c)) || (((decide (1000 * y ≤ min (panR b 0 c) (panR b 2 c)) && decide (1000 * x ≤ min (panR b 1 c) (panR b 3 c))) && decide (1000 * z ≤ heightR b c)) || (((decide (1000 * y ≤ min (panR b 0 c) (panR b 2 c)) && decide (1000 * z ≤ min (panR b 1 c) (panR b 3 c))) && decide (1000 * x ≤ heightR b c)) || (((decide (1000 * z ≤ min (panR b 0 c) (panR b 2 c)) && decide (1000 * x ≤ min (panR b 1 c) (panR b 3 c))) && decide (1000 * y ≤ heightR b c)) || (((decide (1000 * z ≤ min (panR b 0 c) (panR b 2 c)) && decide (1000 * y ≤ min (panR b 1 c) (panR b 3 c))) && decide (1000 * x ≤ heightR b c)))))))
end Go.Proofs.Ytiocklgakklkpaa
namespace Go.Proofs.Ytiocklgakklkpaa
open Go.RowKit
theorem sort3 (x y z : Int) : sortI [x, y, z] = if x ≤ y then (if y ≤ z then [x, y, z] else if x ≤ z then [x, z, y] else [z, x, y]) else (if x ≤ z then [y, x, z] else if y ≤ z then [y, z, x] else [z, y, x]) := by
  by_cases h1 : x ≤ y <;> by_cases h2 : y ≤ z <;> by_cases h3 : x ≤ z <;> first | (exfalso; omega) | simp [sortI, List.mergeSort, List.MergeSort.Internal.splitInTwo, List.merge, h1, h2, h3]
theorem inside_fits (b : Bl) (c x y z : Int) : insideB b c x y z = fitsOf b c [x, y, z] := by
  have e : roomOf b c = [min (panR b 0 c) (panR b 2 c), min (panR b 1 c) (panR b 3 c), heightR b c] := by
    unfold roomOf withM meas measOf panR heightR foldsOf
    cases b.isOpen <;> simp <;> omega
  unfold fitsOf insideB
  rw [e, show [x, y, z].map (1000 * ·) = [1000 * x, 1000 * y, 1000 * z] from rfl]
  generalize 1000 * x = X; generalize 1000 * y = Y; generalize 1000 * z = Z
  generalize min (panR b 0 c) (panR b 2 c) = L; generalize min (panR b 1 c) (panR b 3 c) = M; generalize heightR b c = N
  rw [Bool.eq_iff_iff]
  simp only [Bool.or_eq_true, Bool.and_eq_true, decide_eq_true_eq, sort3]
  (repeat' split) <;> simp <;> omega
theorem inside_mono {b : Bl} {c d x y z : Int} (h : c ≤ d) (hi : insideB b d x y z = true) : insideB b c x y z = true := by
  have hL : min (panR b 0 d) (panR b 2 d) ≤ min (panR b 0 c) (panR b 2 c) := by unfold panR; omega
  have hM : min (panR b 1 d) (panR b 3 d) ≤ min (panR b 1 c) (panR b 3 c) := by unfold panR; omega
  have hN : heightR b d ≤ heightR b c := by unfold heightR; split <;> omega
  unfold insideB at *
  simp only [Bool.or_eq_true, Bool.and_eq_true, decide_eq_true_eq] at *
  rcases hi with ⟨⟨a1, a2⟩, a3⟩ | ⟨⟨a1, a2⟩, a3⟩ | ⟨⟨a1, a2⟩, a3⟩ | ⟨⟨a1, a2⟩, a3⟩ | ⟨⟨a1, a2⟩, a3⟩ | ⟨⟨a1, a2⟩, a3⟩
  · exact (.inl ⟨⟨Int.le_trans a1 hL, Int.le_trans a2 hM⟩, Int.le_trans a3 hN⟩)
  · exact (.inr (.inl ⟨⟨Int.le_trans a1 hL, Int.le_trans a2 hM⟩, Int.le_trans a3 hN⟩))
  · exact (.inr (.inr (.inl ⟨⟨Int.le_trans a1 hL, Int.le_trans a2 hM⟩, Int.le_trans a3 hN⟩)))
  · exact (.inr (.inr (.inr (.inl ⟨⟨Int.le_trans a1 hL, Int.le_trans a2 hM⟩, Int.le_trans a3 hN⟩))))
  · exact (.inr (.inr (.inr (.inr (.inl ⟨⟨Int.le_trans a1 hL, Int.le_trans a2 hM⟩, Int.le_trans a3 hN⟩)))))
  · exact (.inr (.inr (.inr (.inr (.inr ⟨⟨Int.le_trans a1 hL, Int.le_trans a2 hM⟩, Int.le_trans a3 hN⟩)))))
theorem holds_e5 {b : Bl} {s : Sp} {l : List Int} (h : checkErr b = 0) (h2 : isSpan s 1 10000 = true) (h3 : l.length = 3) (h4 : areLong 0 l = true) : holdsErr b s l = 0 := by simp [holdsErr, checkedErr, h, h2, h3, h4]
end Go.Proofs.Ytiocklgakklkpaa
namespace Go.Proofs.Ytiocklgakklkpaa
open Go.RowKit
end Go.Proofs.Ytiocklgakklkpaa
namespace Go.Proofs.Ytiocklgakklkpaa
open Go.RowKit
theorem span_in {lo hi : Int} (h1 : 1 ≤ lo) (h2 : lo ≤ hi) (h3 : hi ≤ 10000) : isSpan (lo, hi) 1 10000 = true := isSpan_iff.2 ⟨h1, h2, h3⟩
theorem long3 {x y z : Int} (hx : 0 ≤ x ∧ x ≤ 3000) (hy : 0 ≤ y ∧ y ≤ 3000) (hz : 0 ≤ z ∧ z ≤ 3000) : areLong 0 [x, y, z] = true := by
  simp [areLong, within, hx, hy, hz]
theorem holds_in {u : Value} {b : Bl} {lo hi : Int} {a : Option Addr} {c : Nat} {x y z : Int} {s p : Bool} (w : World) (hB : Blk w u b) (hI : Ii w a 3 c [x, y, z]) (hck : checkErr b = 0) (h1 : 1 ≤ lo) (h2 : lo ≤ hi) (h3 : hi ≤ 10000) (hx : 0 ≤ x ∧ x ≤ 3000) (hy : 0 ≤ y ∧ y ≤ 3000) (hz : 0 ≤ z ∧ z ≤ 3000) (hs : insideB b hi x y z = s) (hp : insideB b lo x y z = p) :
    Calls Try.prog 16 #[u, .agg #[.int .i64 lo, .int .i64 hi], .slice a 3 c] w (fun e w' => e = .returned (.tuple #[.bool s, .bool p, .int .i64 0]) ∧ Below w.heap.size w w') := by
  refine (holds_any u b lo hi a 3 c [x, y, z] w hB hI).mono fun e w' h => ?_
  have e1 : e = .returned (.tuple #[.bool (if holdsErr b (lo, hi) [x, y, z] = 0 then fitsOf b hi [x, y, z] else false), .bool (if holdsErr b (lo, hi) [x, y, z] = 0 then fitsOf b lo [x, y, z] else false), .int .i64 (holdsErr b (lo, hi) [x, y, z])]) := h.1
  rw [holds_e5 hck (span_in h1 h2 h3) rfl (long3 hx hy hz), if_pos rfl, if_pos rfl, ← inside_fits, ← inside_fits, hs, hp] at e1
  exact ⟨e1, h.2⟩
end Go.Proofs.Ytiocklgakklkpaa
namespace Go.Proofs.Ytiocklgakklkpaa
open Go.RowKit
theorem StoO.low {B B' : Nat} {ps : Nat → Pa} {qs : Nat → Fu} {v : Value} {W : World} (h : StoO B ps qs v W) (hB : B' ≤ B) : StoO B' ps qs v W := by
  obtain ⟨g1, c1, g2, c2, e, h1, h2⟩ := h
  exact ⟨g1, c1, g2, c2, e, h1.low hB, h2.low hB⟩
theorem BoO.low {B B' n m : Nat} {xs ys : List Int} {v : Value} {W : World} (h : BoO B n m xs ys v W) (hB : B' ≤ B) : BoO B' n m xs ys v W := by
  obtain ⟨g1, c1, g2, c2, e, h1, h2⟩ := h
  exact ⟨g1, c1, g2, c2, e, h1.low hB, h2.low hB⟩
theorem BoxO.low {B B' : Nat} {tb lg wd hh fp fq sl : Int} {v : Value} {W : World} (h : BoxO B tb lg wd hh fp fq sl v W) (hB : B' ≤ B) : BoxO B' tb lg wd hh fp fq sl v W := by
  obtain ⟨g1, c1, g2, c2, g3, c3, e, h1, h2, h3⟩ := h
  exact ⟨g1, c1, g2, c2, g3, c3, e, h1.low hB, h2.low hB, h3.low hB⟩
section
variable {B : Nat} {T : TypeId → Bool} {G : TypeId → Array Value → World → Prop}
end
end Go.Proofs.Ytiocklgakklkpaa
namespace Go.Proofs.Ytiocklgakklkpaa
open Go.RowKit
def tailC : Nat → Code → Code
  | n + 1, .seq _ b => tailC n b
  | _, c => c
def bodyC (f : Func) : Code := f.body.getD .skip
end Go.Proofs.Ytiocklgakklkpaa
