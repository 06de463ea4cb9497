/- Part of the proof: what the claim leans on. -/
import Derived.Test.YtiocklgakklkpaaNAX
import Derived.Test.YtiocklgakklkpaaNAH
import Derived.Test.YtiocklgakklkpaaNAG
import Derived.Test.YtiocklgakklkpaaNAI
import Derived.Test.YtiocklgakklkpaaNAU
import Derived.Test.YtiocklgakklkpaaNAW
import Derived.Test.YtiocklgakklkpaaNAC
set_option linter.unusedSimpArgs false
set_option linter.unusedVariables false
namespace Go.Proofs.Ytiocklgakklkpaa
open Go.RowKit
end Go.Proofs.Ytiocklgakklkpaa
namespace Go.Proofs.Ytiocklgakklkpaa
open Go.RowKit
end Go.Proofs.Ytiocklgakklkpaa
namespace Go.Proofs.Ytiocklgakklkpaa
open Go.RowKit
/-- A measure in micrometres. -/
def mic (b : Bl) (c : Int) (i : Nat) : Int := (microsOf b c).getD i 0
/-- What Inner returns of a valid blank without an error of its measures. -/
theorem clamp_id {least n : Int} (h1 : least ≤ n) (h2 : n ≤ 3000) : clamp least 0 n = n := by unfold clamp; omega
theorem offB_id {b : Bl} (h : checkErr b = 0) : offB b 0 0 = b := by
  obtain ⟨⟨hl1, hl2, hl3⟩, -, -, gh, ⟨gp0, gp1, gp2, gp3⟩, gt0, gt1, gu0, gu1⟩ := good_nums h
  obtain ⟨tab, panels, hh, top, bottom, sl, op⟩ := b
  obtain ⟨p0, p1, p2, p3, rfl⟩ := list_four hl1
  obtain ⟨t0, t1, rfl⟩ := list_two hl2
  obtain ⟨u0, u1, rfl⟩ := list_two hl3
  simp only [List.getD_cons_zero, List.getD_cons_succ] at gp0 gp1 gp2 gp3 gt0 gt1 gu0 gu1 gh
  unfold offB
  simp only [List.map_cons, List.map_nil]
  rw [clamp_id gp0.1 gp0.2, clamp_id gp1.1 gp1.2, clamp_id gp2.1 gp2.2, clamp_id gp3.1 gp3.2, clamp_id gh.1 gh.2, clamp_id gu0.1 gu0.2, clamp_id gu1.1 gu1.2, clamp_id gt0.1 gt0.2, clamp_id gt1.1 gt1.2]
  cases op <;> rfl
theorem innerL_zero {b : Bl} (h : checkErr b = 0) (lo hi : Int) : innerL b (lo, hi) 0 = (meas b).map fun m => (1000 * m.1 - m.2 * hi, 1000 * m.1 - m.2 * lo) := by
  unfold innerL
  rw [show -(0 : Int) = 0 from rfl, offB_id h, List.zipWith_self]
theorem inner_at {b : Bl} (h : checkErr b = 0) (lo hi : Int) {i : Nat} (hi9 : i < 9) : nthP (innerL b (lo, hi) 0) i = (mic b hi i, mic b lo i) := by
  rw [innerL_zero h]
  unfold nthP mic microsOf meas measOf foldsOf
  match i, hi9 with
  | 0, _ => simp
  | 1, _ => simp
  | 2, _ => simp
  | 3, _ => simp
  | 4, _ => cases b.isOpen <;> simp <;> omega
  | 5, _ => simp; omega
  | 6, _ => simp; omega
  | 7, _ => simp; omega
  | 8, _ => simp; omega
theorem inner_len {b : Bl} (h : checkErr b = 0) (lo hi : Int) : (innerL b (lo, hi) 0).length = 9 := by
  rw [innerL_zero h]; rfl
theorem mic_le (b : Bl) {lo hi : Int} (h : lo ≤ hi) (i : Nat) : mic b hi i ≤ mic b lo i := micros_le b h i
theorem innerErr_ok {b : Bl} (h : checkErr b = 0) {lo hi off : Int} (h3 : 1 ≤ lo) (h4 : lo ≤ hi) (h5 : hi ≤ 10000) (h6 : 0 ≤ off) (h7 : off ≤ 5) : innerErr b (lo, hi) off = 0 := by
  have : isSpan (lo, hi) 1 10000 = true := by
    unfold isSpan within
    simp only [List.any_cons, List.any_nil, Bool.or_false, Bool.and_eq_true, Bool.not_eq_true', Bool.or_eq_false_iff, decide_eq_false_iff_not, decide_eq_true_eq]
    omega
  have h8 : within 0 5 [off] = true := by unfold within; simp; omega
  unfold innerErr checkedErr checkedErr
  simp [h, this, h8]
/-- A panel that stands beside no flap, longer by some. -/
def longer (b : Bl) (i : Nat) (n : Int) : Bl := { b with panels := b.panels.set i n }
end Go.Proofs.Ytiocklgakklkpaa
namespace Go.Proofs.Ytiocklgakklkpaa
open Go.RowKit
end Go.Proofs.Ytiocklgakklkpaa
namespace Go.Proofs.Ytiocklgakklkpaa
open Go.RowKit
theorem inner_ok {u : Value} {b : Bl} (lo hi off : Int) (w : World) (hB : Blk w u b) (hck : checkErr b = 0) (h1 : 1 ≤ lo) (h2 : lo ≤ hi) (h3 : hi ≤ 10000) (h4 : 0 ≤ off) (h5 : off ≤ 5) : Calls Try.prog 21 #[u, .agg #[.int .i64 lo, .int .i64 hi], .int .i64 off] w (IsPpP (innerL b (lo, hi) off) 0 w) := by
  have hE := innerErr_ok hck h1 h2 h3 h4 h5
  refine (inner_any u b lo hi off w hB (by omega) (by omega)).mono fun e w' h => ?_
  obtain ⟨a, n, c, e1, h1, h2⟩ := h
  rw [hE] at e1
  rw [if_pos hE] at h1
  exact ⟨_, e1, isPp_of h1, h2⟩
theorem mic_cell {b : Bl} {c : Int} {j : Nat} (h : j < 9) : (#[.int .i64 (mic b c 0), .int .i64 (mic b c 1), .int .i64 (mic b c 2), .int .i64 (mic b c 3), .int .i64 (mic b c 4), .int .i64 (mic b c 5), .int .i64 (mic b c 6), .int .i64 (mic b c 7), .int .i64 (mic b c 8)] : Array Value)[j]? = some (.int .i64 (mic b c j)) := by
  match j, h with
  | 0, _ => rfl
  | 1, _ => rfl
  | 2, _ => rfl
  | 3, _ => rfl
  | 4, _ => rfl
  | 5, _ => rfl
  | 6, _ => rfl
  | 7, _ => rfl
  | 8, _ => rfl
end Go.Proofs.Ytiocklgakklkpaa
namespace Go.Proofs.Ytiocklgakklkpaa
open Go.RowKit
end Go.Proofs.Ytiocklgakklkpaa
namespace Go.Proofs.Ytiocklgakklkpaa
open Go.RowKit
end Go.Proofs.Ytiocklgakklkpaa
namespace Go.Proofs.Ytiocklgakklkpaa
open Go.RowKit
end Go.Proofs.Ytiocklgakklkpaa
namespace Go.Proofs.Ytiocklgakklkpaa
open Go.RowKit
end Go.Proofs.Ytiocklgakklkpaa
namespace Go.Proofs.Ytiocklgakklkpaa
open Go.RowKit
theorem StoO.low {B B' : Nat} {ps : Nat → Pa} {qs : Nat → Fu} {v : Value} {W : World} (h : StoO B ps qs v W) (hB : B' ≤ B) : StoO B' ps qs v W := by
  obtain ⟨g1, c1, g2, c2, e, h1, h2⟩ := h
  exact ⟨g1, c1, g2, c2, e, h1.low hB, h2.low hB⟩
theorem BoO.low {B B' n m : Nat} {xs ys : List Int} {v : Value} {W : World} (h : BoO B n m xs ys v W) (hB : B' ≤ B) : BoO B' n m xs ys v W := by
  obtain ⟨g1, c1, g2, c2, e, h1, h2⟩ := h
  exact ⟨g1, c1, g2, c2, e, h1.low hB, h2.low hB⟩
theorem BoxO.low {B B' : Nat} {tb lg wd hh fp fq sl : Int} {v : Value} {W : World} (h : BoxO B tb lg wd hh fp fq sl v W) (hB : B' ≤ B) : BoxO B' tb lg wd hh fp fq sl v W := by
  obtain ⟨g1, c1, g2, c2, g3, c3, e, h1, h2, h3⟩ := h
  exact ⟨g1, c1, g2, c2, g3, c3, e, h1.low hB, h2.low hB, h3.low hB⟩
theorem byV_row {W : World} {b : Nat} {x : Int} {T : TypeId} (h : W.heap[b]? = some (.cells #[.int .u8 x] T (0, 0))) (hx : 0 ≤ x ∧ x ≤ 255) : ByV W (some ⟨b, 0, none⟩) 1 (fun _ => x) := by
  refine .inr ⟨b, 0, rfl, ⟨lt_of_blk h, fun i hi => ?_⟩, by decide, fun i _ => hx⟩
  obtain rfl : i = 0 := by omega
  exact Joins.cell_of_block h 0
section
variable {B : Nat} {T : TypeId → Bool} {G : TypeId → Array Value → World → Prop}
theorem OwnR.leK {T1 : TypeId} {z B' n g c : Nat} {cs : List Value} {W W' : World} (h : OwnR T1 z B' n cs g c W) (hb : LeK B T G W W') (hT : T T1 = false := by rfl) : OwnR T1 z B' n cs g c W' := by
  refine ⟨h.1, Nat.lt_of_lt_of_le h.2.1 hb.size, h.2.2.1, ?_⟩
  rcases h.2.2.2 with h4 | ⟨g', cap, cur, e, h5, h6, h7⟩
  · exact .inl h4
  · exact .inr ⟨g', cap, cur, e, h5, hb.block _ _ h6 (.inr fun cs t ht e => by simp only [Obj.cells.injEq] at e; rw [← e.2.1, hT] at ht; cases ht), h7⟩
theorem StoO.leK {B' : Nat} {ps : Nat → Pa} {qs : Nat → Fu} {v : Value} {W W' : World} (h : StoO B' ps qs v W) (hb : LeK B T G W W') (hT : T 68 = false := by rfl) (hT' : T 70 = false := by rfl) : StoO B' ps qs v W' := by
  obtain ⟨g1, c1, g2, c2, e, h1, h2⟩ := h
  exact ⟨g1, c1, g2, c2, e, h1.leK hb hT, h2.leK hb hT'⟩
theorem BoO.leK {B' n m : Nat} {xs ys : List Int} {v : Value} {W W' : World} (h : BoO B' n m xs ys v W) (hb : LeK B T G W W') (hT : T 3 = false := by rfl) : BoO B' n m xs ys v W' := by
  obtain ⟨g1, c1, g2, c2, e, h1, h2⟩ := h
  exact ⟨g1, c1, g2, c2, e, h1.leK hT hb, h2.leK hT hb⟩
theorem abK_k {ds : List (List Nat)} {i : Nat} {p : Value → World → Prop} (h : ∀ v W W', LeK B T G W W' → p v W → p v W') : KeepsL (LeK B T G) ds i (ab p) := ⟨fun v _ W W' hb hp => h v W W' hb hp, fun _ _ _ _ _ h => h⟩
end
set_option maxRecDepth 100000 in
theorem build9_run (x0 x1 x2 x3 x4 x5 x6 x7 x8 : Int) (W : World) : (Instr.build 62 #[(0, .int .i64 x0), (1, .int .i64 x1), (2, .int .i64 x2), (3, .int .i64 x3), (4, .int .i64 x4), (5, .int .i64 x5), (6, .int .i64 x6), (7, .int .i64 x7), (8, .int .i64 x8)]).run Try.prog W = .ok (.agg #[.int .i64 x0, .int .i64 x1, .int .i64 x2, .int .i64 x3, .int .i64 x4, .int .i64 x5, .int .i64 x6, .int .i64 x7, .int .i64 x8]) W := by kernel_rfl
theorem build9_exec {a : Act} {W : World} {t0 t1 t2 t3 t4 t5 t6 t7 t8 : Nat} {x0 x1 x2 x3 x4 x5 x6 x7 x8 : Int} {dst : Option Nat} {ty : TypeId} {pos : String} {af : Array Edge} {gd : Option (Nat × Bool)} (h0 : a.eval (.tmp t0) = .int .i64 x0) (h1 : a.eval (.tmp t1) = .int .i64 x1) (h2 : a.eval (.tmp t2) = .int .i64 x2) (h3 : a.eval (.tmp t3) = .int .i64 x3) (h4 : a.eval (.tmp t4) = .int .i64 x4) (h5 : a.eval (.tmp t5) = .int .i64 x5) (h6 : a.eval (.tmp t6) = .int .i64 x6) (h7 : a.eval (.tmp t7) = .int .i64 x7) (h8 : a.eval (.tmp t8) = .int .i64 x8) :
    (execOp a.eval { dst := dst, op := .build 62 #[(0, .tmp t0), (1, .tmp t1), (2, .tmp t2), (3, .tmp t3), (4, .tmp t4), (5, .tmp t5), (6, .tmp t6), (7, .tmp t7), (8, .tmp t8)], type := ty, pos := pos, after := af, guard := gd }).run Try.prog W = .ok (.value (.agg #[.int .i64 x0, .int .i64 x1, .int .i64 x2, .int .i64 x3, .int .i64 x4, .int .i64 x5, .int .i64 x6, .int .i64 x7, .int .i64 x8])) W := by
  simp only [execOp, Sem.run_bind, Sem.run_pure, Result.andThen_ok, List.map_toArray, List.map_cons, List.map_nil, h0, h1, h2, h3, h4, h5, h6, h7, h8, build9_run]
end Go.Proofs.Ytiocklgakklkpaa
namespace Go.Proofs.Ytiocklgakklkpaa
open Go.RowKit
def tailC : Nat → Code → Code
  | n + 1, .seq _ b => tailC n b
  | _, c => c
def bodyC (f : Func) : Code := f.body.getD .skip
end Go.Proofs.Ytiocklgakklkpaa
