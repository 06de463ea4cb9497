/- Part of the proof: what the claim leans on. -/
import Derived.Test.YtnhipdbdolabkaaWBG
set_option linter.unusedSimpArgs false
set_option linter.unusedVariables false
namespace Go.Proofs.Ytnhipdbdolabkaa
open Go.ChangeShapes Go.WideShapes Go.ChangeAt Go.RowKit
set_option maxRecDepth 100000 in
theorem open_r2 {H : Type} {enc : TypeId × Value → H} {W : World} {r : Reach} {b0 : Nat} {spare : Nat → Bool} {held : Bool} {v : Value} {d : DataW H} {ps : List MemPlace}
    (hv : Value.okWide Try.prog W r b0 73 v) (h : DataW.Trod enc Try.prog W 0 spare held 73 v d ps) :
    ∃ ws : Nat → Int, v = .agg #[.int .u8 (ws 0), .int .u8 (ws 1)] ∧ ∀ j, 0 ≤ ws j ∧ ws j ≤ 255 := by
  obtain ⟨cs, rfl, hsz⟩ := okWide_arr Try.underlying73 hv
  obtain ⟨fuel, hf⟩ := h
  have en : Try.prog.cellsOf 73 = 2 := by kernel_rfl
  have u1 : Try.prog.cellsOf 5 = 1 := by kernel_rfl
  rw [en] at hsz
  obtain ⟨l⟩ := cs
  match l, hsz with
  | [c0, c1], _ =>
    have A0 := open_arr (cs := [c0, c1]) Try.underlying5 u1 Try.underlying73 hf rfl
    obtain ⟨w0, e0, g0⟩ := A0 0 (by decide)
    obtain ⟨w1, e1, g1⟩ := A0 1 (by decide)
    obtain rfl := Option.some.inj e0
    obtain rfl := Option.some.inj e1
    refine ⟨fun j => [w0, w1].getD j 0, rfl, fun j => ?_⟩
    match j with
    | 0 => exact bounds_u8 g0
    | 1 => exact bounds_u8 g1
    | q + 2 => simp
end Go.Proofs.Ytnhipdbdolabkaa
