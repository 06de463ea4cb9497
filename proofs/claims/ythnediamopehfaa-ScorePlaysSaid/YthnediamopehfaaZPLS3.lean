/- Part of the proof: what the claim leans on. -/
import Derived.Test.YthnediamopehfaaZPLL2
set_option linter.unusedSimpArgs false
set_option linter.unusedVariables false
namespace Go.Proofs.Ythnediamopehfaa
open Go.ChangeShapes Go.WideShapes Go.ChangeAt Go.RowKit
theorem okWide_arr {P : Program} {w : World} {r : Reach} {base : Nat} {t e : TypeId} {n : Nat} {v : Value} (ht : P.underlying t = some (.array n e)) (h : Value.okWide P w r base t v) : ∃ cs, v = .agg cs ∧ cs.size = P.cellsOf t := by
  simp only [Value.okWide, ht] at h
  obtain ⟨cs, h1, h2, _⟩ := h
  exact ⟨cs, h1, h2⟩
set_option maxRecDepth 100000 in
theorem open_spanc {H : Type} {enc : TypeId × Value → H} {W : World} {spare : Nat → Bool} {held : Bool} {fuel : Nat} {x0 x1 : Value} {y : DataW H × List MemPlace}
    (hf : DataW.trod enc Try.prog W 0 spare held fuel 37 [x0, x1] = some y) : ∃ lo hi, x0 = .int .i64 lo ∧ x1 = .int .i64 hi ∧ (Lit.int .i64 lo).wf = true ∧ (Lit.int .i64 hi).wf = true := by
  obtain ⟨xs, n, _, _, hl, hlen, hfld⟩ := DataW.trod_struct Try.underlying37 hf
  match xs, hlen with
  | [y0, y1], _ =>
    have i1 : Try.prog.cellsOf 3 = 1 := by kernel_rfl
    have f0 : DataW.trod enc Try.prog W 0 spare held n 3 ((List.drop 0 [x0, x1]).take (Try.prog.cellsOf 3)) = some y0 := hfld 0 _ rfl
    have f1 : DataW.trod enc Try.prog W 0 spare held n 3 ((List.drop 1 [x0, x1]).take (Try.prog.cellsOf 3)) = some y1 := hfld 1 _ rfl
    rw [i1] at f0 f1
    change DataW.trod enc Try.prog W 0 spare held n 3 [x0] = some y0 at f0
    change DataW.trod enc Try.prog W 0 spare held n 3 [x1] = some y1 at f1
    obtain ⟨lo, q0, -, w0⟩ := DataW.trod_int Try.underlying3 f0
    obtain ⟨hi, q1, -, w1⟩ := DataW.trod_int Try.underlying3 f1
    exact ⟨lo, hi, (List.cons.inj q0).1, (List.cons.inj q1).1, w0, w1⟩
set_option maxRecDepth 100000 in
/-- Two spans that came in. -/
theorem open_spans {H : Type} {enc : TypeId × Value → H} {W : World} {r : Reach} {b0 : Nat} {spare : Nat → Bool} {held : Bool} {v : Value} {d : DataW H} {ps : List MemPlace}
    (hv : Value.okWide Try.prog W r b0 38 v) (h : DataW.Trod enc Try.prog W 0 spare held 38 v d ps) :
    ∃ lo1 hi1 lo2 hi2, v = .agg #[.int .i64 lo1, .int .i64 hi1, .int .i64 lo2, .int .i64 hi2] := by
  obtain ⟨cs, rfl, hsz⟩ := okWide_arr Try.underlying38 hv
  obtain ⟨fuel, hf⟩ := h
  have e4 : Try.prog.cellsOf 38 = 4 := by kernel_rfl
  have s2 : Try.prog.cellsOf 37 = 2 := by kernel_rfl
  rw [e4] at hsz
  obtain ⟨l⟩ := cs
  match l, hsz with
  | [x0, x1, x2, x3], _ =>
    obtain ⟨xs, n, _, _, hl, hlen, hel⟩ := DataW.trod_array Try.underlying38 hf
    match xs, hlen with
    | [y0, y1], _ =>
      have f0 := hel 0 (by decide)
      have f1 := hel 1 (by decide)
      rw [s2] at f0 f1
      change DataW.trod enc Try.prog W 0 spare held n 37 [x0, x1] = some y0 at f0
      change DataW.trod enc Try.prog W 0 spare held n 37 [x2, x3] = some y1 at f1
      obtain ⟨lo1, hi1, rfl, rfl, -⟩ := open_spanc f0
      obtain ⟨lo2, hi2, rfl, rfl, -⟩ := open_spanc f1
      exact ⟨lo1, hi1, lo2, hi2, rfl⟩
end Go.Proofs.Ythnediamopehfaa
