/- Part of the proof: what the claim leans on. -/
import Derived.Test.YthnediamopehfaaGreatZBLL8
import Derived.ProofKit
import Derived.OpenShut
import Derived.ChangeOld
import Derived.Below
set_option linter.unusedSimpArgs false
set_option linter.unusedVariables false
namespace Go.Proofs.YthnediamopehfaaGreat
open Go.ChangeShapes Go.WideShapes Go.ChangeAt Go.RowKit
set_option maxRecDepth 100000 in
/-- A span that came in. -/
theorem open_span {H : Type} {enc : TypeId × Value → H} {W : World} {r : Reach} {b0 : Nat} {spare : Nat → Bool} {held : Bool} {v : Value} {d : DataW H} {ps : List MemPlace}
    (hv : Value.okWide Tryz.prog W r b0 26 v) (h : DataW.Trod enc Tryz.prog W 0 spare held 26 v d ps) :
    ∃ lo hi, v = .agg #[.int .i64 lo, .int .i64 hi] ∧ (Lit.int .i64 lo).wf = true ∧ (Lit.int .i64 hi).wf = true := by
  obtain ⟨cs, rfl, hsz⟩ := okWide_struct Tryz.underlying26 hv
  obtain ⟨fuel, hf⟩ := h
  obtain ⟨xs, n, _, _, hl, hlen, hfld⟩ := DataW.trod_struct Tryz.underlying26 hf
  have e2 : Tryz.prog.cellsOf 26 = 2 := by kernel_rfl
  rw [e2] at hsz
  obtain ⟨l⟩ := cs
  match l, hsz with
  | [x0, x1], _ =>
    match xs, hlen with
    | [y0, y1], _ =>
      have i1 : Tryz.prog.cellsOf 3 = 1 := by kernel_rfl
      have f0 : DataW.trod enc Tryz.prog W 0 spare held n 3 ((List.drop 0 [x0, x1]).take (Tryz.prog.cellsOf 3)) = some y0 := hfld 0 _ rfl
      have f1 : DataW.trod enc Tryz.prog W 0 spare held n 3 ((List.drop 1 [x0, x1]).take (Tryz.prog.cellsOf 3)) = some y1 := hfld 1 _ rfl
      rw [i1] at f0 f1
      change DataW.trod enc Tryz.prog W 0 spare held n 3 [x0] = some y0 at f0
      change DataW.trod enc Tryz.prog W 0 spare held n 3 [x1] = some y1 at f1
      obtain ⟨lo, q0, -, w0⟩ := DataW.trod_int Tryz.underlying3 f0
      obtain ⟨hi, q1, -, w1⟩ := DataW.trod_int Tryz.underlying3 f1
      obtain rfl := (List.cons.inj q0).1
      obtain rfl := (List.cons.inj q1).1
      exact ⟨lo, hi, rfl, w0, w1⟩
end Go.Proofs.YthnediamopehfaaGreat
namespace Go.Proofs.YthnediamopehfaaGreat
open Go.ChangeShapes Go.WideShapes Go.ChangeAt Go.RowKit
set_option maxRecDepth 100000 in
theorem open_spanc {H : Type} {enc : TypeId × Value → H} {W : World} {spare : Nat → Bool} {held : Bool} {fuel : Nat} {x0 x1 : Value} {y : DataW H × List MemPlace}
    (hf : DataW.trod enc Tryz.prog W 0 spare held fuel 26 [x0, x1] = some y) : ∃ lo hi, x0 = .int .i64 lo ∧ x1 = .int .i64 hi ∧ (Lit.int .i64 lo).wf = true ∧ (Lit.int .i64 hi).wf = true := by
  obtain ⟨xs, n, _, _, hl, hlen, hfld⟩ := DataW.trod_struct Tryz.underlying26 hf
  match xs, hlen with
  | [y0, y1], _ =>
    have i1 : Tryz.prog.cellsOf 3 = 1 := by kernel_rfl
    have f0 : DataW.trod enc Tryz.prog W 0 spare held n 3 ((List.drop 0 [x0, x1]).take (Tryz.prog.cellsOf 3)) = some y0 := hfld 0 _ rfl
    have f1 : DataW.trod enc Tryz.prog W 0 spare held n 3 ((List.drop 1 [x0, x1]).take (Tryz.prog.cellsOf 3)) = some y1 := hfld 1 _ rfl
    rw [i1] at f0 f1
    change DataW.trod enc Tryz.prog W 0 spare held n 3 [x0] = some y0 at f0
    change DataW.trod enc Tryz.prog W 0 spare held n 3 [x1] = some y1 at f1
    obtain ⟨lo, q0, -, w0⟩ := DataW.trod_int Tryz.underlying3 f0
    obtain ⟨hi, q1, -, w1⟩ := DataW.trod_int Tryz.underlying3 f1
    exact ⟨lo, hi, (List.cons.inj q0).1, (List.cons.inj q1).1, w0, w1⟩
end Go.Proofs.YthnediamopehfaaGreat
namespace Go.Proofs.YthnediamopehfaaGreat
open Go.ChangeShapes Go.WideShapes Go.ChangeAt Go.RowKit
set_option maxRecDepth 100000 in
theorem open_wish {H : Type} {enc : TypeId × Value → H} {W : World} {r : Reach} {b0 : Nat} {spare : Nat → Bool} {held : Bool} {v : Value} {d : DataW H} {ps : List MemPlace}
    (hv : Value.okWide Tryz.prog W r b0 43 v) (h : DataW.Trod enc Tryz.prog W 0 spare held 43 v d ps) :
    ∃ l1 h1 l2 h2 l3 h3 l4 h4 l5 h5 wo, v = .agg #[.int .i64 l1, .int .i64 h1, .int .i64 l2, .int .i64 h2, .int .i64 l3, .int .i64 h3, .int .i64 l4, .int .i64 h4, .int .i64 l5, .int .i64 h5, .bool wo] := by
  obtain ⟨cs, rfl, hsz⟩ := okWide_struct Tryz.underlying43 hv
  obtain ⟨fuel, hf⟩ := h
  obtain ⟨xs, n, _, _, hl, hlen, hfld⟩ := DataW.trod_struct Tryz.underlying43 hf
  have e11 : Tryz.prog.cellsOf 43 = 11 := by kernel_rfl
  rw [e11] at hsz
  have s2 : Tryz.prog.cellsOf 26 = 2 := by kernel_rfl
  have o1 : Tryz.prog.cellsOf 4 = 1 := by kernel_rfl
  obtain ⟨l⟩ := cs
  match l, hsz with
  | [x0, x1, x2, x3, x4, x5, x6, x7, x8, x9, x10], _ =>
    match xs, hlen with
    | [y0, y1, y2, y3, y4, y5], _ =>
      have f0 : DataW.trod enc Tryz.prog W 0 spare held n 26 ((List.drop 0 [x0, x1, x2, x3, x4, x5, x6, x7, x8, x9, x10]).take (Tryz.prog.cellsOf 26)) = some y0 := hfld 0 _ rfl
      have f1 : DataW.trod enc Tryz.prog W 0 spare held n 26 ((List.drop 2 [x0, x1, x2, x3, x4, x5, x6, x7, x8, x9, x10]).take (Tryz.prog.cellsOf 26)) = some y1 := hfld 1 _ rfl
      have f2 : DataW.trod enc Tryz.prog W 0 spare held n 26 ((List.drop 4 [x0, x1, x2, x3, x4, x5, x6, x7, x8, x9, x10]).take (Tryz.prog.cellsOf 26)) = some y2 := hfld 2 _ rfl
      have f3 : DataW.trod enc Tryz.prog W 0 spare held n 26 ((List.drop 6 [x0, x1, x2, x3, x4, x5, x6, x7, x8, x9, x10]).take (Tryz.prog.cellsOf 26)) = some y3 := hfld 3 _ rfl
      have f4 : DataW.trod enc Tryz.prog W 0 spare held n 26 ((List.drop 8 [x0, x1, x2, x3, x4, x5, x6, x7, x8, x9, x10]).take (Tryz.prog.cellsOf 26)) = some y4 := hfld 4 _ rfl
      have f5 : DataW.trod enc Tryz.prog W 0 spare held n 4 ((List.drop 10 [x0, x1, x2, x3, x4, x5, x6, x7, x8, x9, x10]).take (Tryz.prog.cellsOf 4)) = some y5 := hfld 5 _ rfl
      rw [s2] at f0; change DataW.trod enc Tryz.prog W 0 spare held n 26 [x0, x1] = some y0 at f0
      rw [s2] at f1; change DataW.trod enc Tryz.prog W 0 spare held n 26 [x2, x3] = some y1 at f1
      rw [s2] at f2; change DataW.trod enc Tryz.prog W 0 spare held n 26 [x4, x5] = some y2 at f2
      rw [s2] at f3; change DataW.trod enc Tryz.prog W 0 spare held n 26 [x6, x7] = some y3 at f3
      rw [s2] at f4; change DataW.trod enc Tryz.prog W 0 spare held n 26 [x8, x9] = some y4 at f4
      rw [o1] at f5; change DataW.trod enc Tryz.prog W 0 spare held n 4 [x10] = some y5 at f5
      obtain ⟨l1, h1, rfl, rfl, -⟩ := open_spanc f0
      obtain ⟨l2, h2, rfl, rfl, -⟩ := open_spanc f1
      obtain ⟨l3, h3, rfl, rfl, -⟩ := open_spanc f2
      obtain ⟨l4, h4, rfl, rfl, -⟩ := open_spanc f3
      obtain ⟨l5, h5, rfl, rfl, -⟩ := open_spanc f4
      obtain ⟨wo, q5, -⟩ := DataW.trod_bool Tryz.underlying4 f5
      obtain rfl := (List.cons.inj q5).1
      exact ⟨l1, h1, l2, h2, l3, h3, l4, h4, l5, h5, wo, rfl⟩
end Go.Proofs.YthnediamopehfaaGreat
