/- Part of the proof: what the claim leans on. -/
import Derived.Test.YthnediamopehfaaGreatVTRL11
set_option maxRecDepth 100000
set_option linter.unusedSimpArgs false
set_option linter.unusedVariables false
namespace Go.Proofs.YthnediamopehfaaGreat
open Go.ChangeShapes Go.WideShapes Go.ChangeAt Go.RowKit
theorem okWide_arr {P : Program} {w : World} {r : Reach} {base : Nat} {t e : TypeId} {n : Nat} {v : Value} (ht : P.underlying t = some (.array n e)) (h : Value.okWide P w r base t v) : ∃ cs, v = .agg cs ∧ cs.size = P.cellsOf t := by
  simp only [Value.okWide, ht] at h
  obtain ⟨cs, h1, h2, _⟩ := h
  exact ⟨cs, h1, h2⟩
open Go.ChangeShapes Go.WideShapes Go.ChangeAt Go.RowKit
theorem bounds_u8 {n : Int} (h : (Lit.int .u8 n).wf = true) : 0 ≤ n ∧ n ≤ 255 := by
  simp only [Lit.wf, Bool.and_eq_true, decide_eq_true_eq] at h
  exact h
theorem bounds_i8 {n : Int} (h : (Lit.int .i8 n).wf = true) : -128 ≤ n ∧ n ≤ 127 := by
  simp only [Lit.wf, Bool.and_eq_true, decide_eq_true_eq] at h
  exact h
theorem open_arr {k : IntKind} {e : TypeId} {H : Type} {enc : TypeId × Value → H} {W : World} {spare : Nat → Bool} {held : Bool} {fuel n : Nat} {t : TypeId} {cs : List Value} {y : DataW H × List MemPlace} (he : Tryz.prog.underlying e = some (.int k)) (hc : Tryz.prog.cellsOf e = 1) (ht : Tryz.prog.underlying t = some (.array n e)) (hf : DataW.trod enc Tryz.prog W 0 spare held fuel t cs = some y) (hn : cs.length = n) :
    ∀ i, i < n → ∃ x, cs[i]? = some (.int k x) ∧ (Lit.int k x).wf = true := by
  obtain ⟨xs, m, _, _, hl, hlen, hel⟩ := DataW.trod_array ht hf
  intro i hi
  have f := hel i hi
  rw [hc, Nat.mul_one] at f
  rw [List.getElem?_eq_getElem (by omega : i < xs.length)] at f
  obtain ⟨x, q, -, wf⟩ := DataW.trod_int he f
  refine ⟨x, ?_, wf⟩
  have h1 : ((cs.drop i).take 1)[0]? = some (.int k x) := by rw [q]; rfl
  simpa using h1
theorem open_sheet {H : Type} {enc : TypeId × Value → H} {W : World} {r : Reach} {b0 : Nat} {spare : Nat → Bool} {held : Bool} {v : Value} {d : DataW H} {ps : List MemPlace}
    (hv : Value.okWide Tryz.prog W r b0 72 v) (h : DataW.Trod enc Tryz.prog W 0 spare held 72 v d ps) :
    ∃ x : Sh, v = .agg #[.int .u8 x.x0, .int .u8 x.x1, .int .u8 x.x2, .int .u8 x.x3, .int .u8 x.xh, .int .u8 x.y0, .int .u8 x.y1, .int .u8 x.y2, .int .u8 x.y3, .bool x.xo, .int .u8 x.ca, .int .u8 x.cb, .int .u8 x.v0, .int .u8 x.v1, .int .u8 x.v2, .int .u8 x.v3, .int .u8 x.v4] ∧ ShIn x := by
  obtain ⟨cs, rfl, hsz⟩ := okWide_struct Tryz.underlying72 hv
  obtain ⟨fuel, hf⟩ := h
  obtain ⟨xs, n, _, _, hl, hlen, hfld⟩ := DataW.trod_struct Tryz.underlying72 hf
  have e17 : Tryz.prog.cellsOf 72 = 17 := by kernel_rfl
  rw [e17] at hsz
  have a4 : Tryz.prog.cellsOf 68 = 4 := by kernel_rfl
  have a2 : Tryz.prog.cellsOf 69 = 2 := by kernel_rfl
  have a5 : Tryz.prog.cellsOf 70 = 5 := by kernel_rfl
  have u1 : Tryz.prog.cellsOf 5 = 1 := by kernel_rfl
  have o1 : Tryz.prog.cellsOf 4 = 1 := by kernel_rfl
  obtain ⟨l⟩ := cs
  match l, hsz with
  | [c0, c1, c2, c3, c4, c5, c6, c7, c8, c9, c10, c11, c12, c13, c14, c15, c16], _ =>
    match xs, hlen with
    | [y0, y1, y2, y3, y4, y5], _ =>
      have f0 : DataW.trod enc Tryz.prog W 0 spare held n 68 ((List.drop 0 [c0, c1, c2, c3, c4, c5, c6, c7, c8, c9, c10, c11, c12, c13, c14, c15, c16]).take (Tryz.prog.cellsOf 68)) = some y0 := hfld 0 _ rfl
      have f1 : DataW.trod enc Tryz.prog W 0 spare held n 5 ((List.drop 4 [c0, c1, c2, c3, c4, c5, c6, c7, c8, c9, c10, c11, c12, c13, c14, c15, c16]).take (Tryz.prog.cellsOf 5)) = some y1 := hfld 1 _ rfl
      have f2 : DataW.trod enc Tryz.prog W 0 spare held n 68 ((List.drop 5 [c0, c1, c2, c3, c4, c5, c6, c7, c8, c9, c10, c11, c12, c13, c14, c15, c16]).take (Tryz.prog.cellsOf 68)) = some y2 := hfld 2 _ rfl
      have f3 : DataW.trod enc Tryz.prog W 0 spare held n 4 ((List.drop 9 [c0, c1, c2, c3, c4, c5, c6, c7, c8, c9, c10, c11, c12, c13, c14, c15, c16]).take (Tryz.prog.cellsOf 4)) = some y3 := hfld 3 _ rfl
      have f4 : DataW.trod enc Tryz.prog W 0 spare held n 69 ((List.drop 10 [c0, c1, c2, c3, c4, c5, c6, c7, c8, c9, c10, c11, c12, c13, c14, c15, c16]).take (Tryz.prog.cellsOf 69)) = some y4 := hfld 4 _ rfl
      have f5 : DataW.trod enc Tryz.prog W 0 spare held n 70 ((List.drop 12 [c0, c1, c2, c3, c4, c5, c6, c7, c8, c9, c10, c11, c12, c13, c14, c15, c16]).take (Tryz.prog.cellsOf 70)) = some y5 := hfld 5 _ rfl
      rw [a4] at f0; change DataW.trod enc Tryz.prog W 0 spare held n 68 [c0, c1, c2, c3] = some y0 at f0
      rw [u1] at f1; change DataW.trod enc Tryz.prog W 0 spare held n 5 [c4] = some y1 at f1
      rw [a4] at f2; change DataW.trod enc Tryz.prog W 0 spare held n 68 [c5, c6, c7, c8] = some y2 at f2
      rw [o1] at f3; change DataW.trod enc Tryz.prog W 0 spare held n 4 [c9] = some y3 at f3
      rw [a2] at f4; change DataW.trod enc Tryz.prog W 0 spare held n 69 [c10, c11] = some y4 at f4
      rw [a5] at f5; change DataW.trod enc Tryz.prog W 0 spare held n 70 [c12, c13, c14, c15, c16] = some y5 at f5
      have A0 := open_arr Tryz.underlying5 u1 Tryz.underlying68 f0 rfl
      have A2 := open_arr Tryz.underlying5 u1 Tryz.underlying68 f2 rfl
      have A4 := open_arr Tryz.underlying5 u1 Tryz.underlying69 f4 rfl
      have A5 := open_arr Tryz.underlying5 u1 Tryz.underlying70 f5 rfl
      obtain ⟨x0, e0, g0⟩ := A0 0 (by decide)
      obtain ⟨x1, e1, g1⟩ := A0 1 (by decide)
      obtain ⟨x2, e2, g2⟩ := A0 2 (by decide)
      obtain ⟨x3, e3, g3⟩ := A0 3 (by decide)
      obtain ⟨xh, e4, -, g4⟩ := DataW.trod_int Tryz.underlying5 f1
      obtain ⟨z0, e5, g5⟩ := A2 0 (by decide)
      obtain ⟨z1, e6, g6⟩ := A2 1 (by decide)
      obtain ⟨z2, e7, g7⟩ := A2 2 (by decide)
      obtain ⟨z3, e8, g8⟩ := A2 3 (by decide)
      obtain ⟨xo, e9, -⟩ := DataW.trod_bool Tryz.underlying4 f3
      obtain ⟨ca, e10, g10⟩ := A4 0 (by decide)
      obtain ⟨cb, e11, g11⟩ := A4 1 (by decide)
      obtain ⟨v0, e12, g12⟩ := A5 0 (by decide)
      obtain ⟨v1, e13, g13⟩ := A5 1 (by decide)
      obtain ⟨v2, e14, g14⟩ := A5 2 (by decide)
      obtain ⟨v3, e15, g15⟩ := A5 3 (by decide)
      obtain ⟨v4, e16, g16⟩ := A5 4 (by decide)
      obtain rfl := Option.some.inj e0
      obtain rfl := Option.some.inj e1
      obtain rfl := Option.some.inj e2
      obtain rfl := Option.some.inj e3
      obtain rfl := (List.cons.inj e4).1
      obtain rfl := Option.some.inj e5
      obtain rfl := Option.some.inj e6
      obtain rfl := Option.some.inj e7
      obtain rfl := Option.some.inj e8
      obtain rfl := (List.cons.inj e9).1
      obtain rfl := Option.some.inj e10
      obtain rfl := Option.some.inj e11
      obtain rfl := Option.some.inj e12
      obtain rfl := Option.some.inj e13
      obtain rfl := Option.some.inj e14
      obtain rfl := Option.some.inj e15
      obtain rfl := Option.some.inj e16
      exact ⟨⟨x0, x1, x2, x3, xh, z0, z1, z2, z3, xo, ca, cb, v0, v1, v2, v3, v4⟩, rfl, bounds_u8 g0, bounds_u8 g1, bounds_u8 g2, bounds_u8 g3, bounds_u8 g4, bounds_u8 g5, bounds_u8 g6, bounds_u8 g7, bounds_u8 g8, bounds_u8 g10, bounds_u8 g11, bounds_u8 g12, bounds_u8 g13, bounds_u8 g14, bounds_u8 g15, bounds_u8 g16⟩
open Go.ChangeShapes Go.WideShapes Go.ChangeAt Go.RowKit
theorem open_ws {H : Type} {enc : TypeId × Value → H} {W : World} {r : Reach} {b0 : Nat} {spare : Nat → Bool} {held : Bool} {v : Value} {d : DataW H} {ps : List MemPlace}
    (hv : Value.okWide Tryz.prog W r b0 85 v) (h : DataW.Trod enc Tryz.prog W 0 spare held 85 v d ps) :
    ∃ ws : Nat → Int, v = .agg #[.int .i8 (ws 0), .int .i8 (ws 1), .int .i8 (ws 2), .int .i8 (ws 3), .int .i8 (ws 4), .int .i8 (ws 5), .int .i8 (ws 6), .int .i8 (ws 7), .int .i8 (ws 8)] ∧ ∀ j, j < 9 → -128 ≤ ws j ∧ ws j ≤ 127 := by
  obtain ⟨cs, rfl, hsz⟩ := okWide_arr Tryz.underlying85 hv
  obtain ⟨fuel, hf⟩ := h
  have en : Tryz.prog.cellsOf 85 = 9 := by kernel_rfl
  have u1 : Tryz.prog.cellsOf 84 = 1 := by kernel_rfl
  rw [en] at hsz
  obtain ⟨l⟩ := cs
  match l, hsz with
  | [c0, c1, c2, c3, c4, c5, c6, c7, c8], _ =>
    have A0 := open_arr (cs := [c0, c1, c2, c3, c4, c5, c6, c7, c8]) Tryz.underlying84 u1 Tryz.underlying85 hf rfl
    obtain ⟨w0, e0, g0⟩ := A0 0 (by decide)
    obtain ⟨w1, e1, g1⟩ := A0 1 (by decide)
    obtain ⟨w2, e2, g2⟩ := A0 2 (by decide)
    obtain ⟨w3, e3, g3⟩ := A0 3 (by decide)
    obtain ⟨w4, e4, g4⟩ := A0 4 (by decide)
    obtain ⟨w5, e5, g5⟩ := A0 5 (by decide)
    obtain ⟨w6, e6, g6⟩ := A0 6 (by decide)
    obtain ⟨w7, e7, g7⟩ := A0 7 (by decide)
    obtain ⟨w8, e8, g8⟩ := A0 8 (by decide)
    obtain rfl := Option.some.inj e0
    obtain rfl := Option.some.inj e1
    obtain rfl := Option.some.inj e2
    obtain rfl := Option.some.inj e3
    obtain rfl := Option.some.inj e4
    obtain rfl := Option.some.inj e5
    obtain rfl := Option.some.inj e6
    obtain rfl := Option.some.inj e7
    obtain rfl := Option.some.inj e8
    refine ⟨fun j => [w0, w1, w2, w3, w4, w5, w6, w7, w8].getD j 0, rfl, fun j hj => ?_⟩
    match j, hj with
    | 0, _ => exact bounds_i8 g0
    | 1, _ => exact bounds_i8 g1
    | 2, _ => exact bounds_i8 g2
    | 3, _ => exact bounds_i8 g3
    | 4, _ => exact bounds_i8 g4
    | 5, _ => exact bounds_i8 g5
    | 6, _ => exact bounds_i8 g6
    | 7, _ => exact bounds_i8 g7
    | 8, _ => exact bounds_i8 g8
theorem open_v2 {H : Type} {enc : TypeId × Value → H} {W : World} {r : Reach} {b0 : Nat} {spare : Nat → Bool} {held : Bool} {v : Value} {d : DataW H} {ps : List MemPlace}
    (hv : Value.okWide Tryz.prog W r b0 69 v) (h : DataW.Trod enc Tryz.prog W 0 spare held 69 v d ps) :
    ∃ ws : Nat → Int, v = .agg #[.int .u8 (ws 0), .int .u8 (ws 1)] ∧ ∀ j, j < 2 → 0 ≤ ws j ∧ ws j ≤ 255 := by
  obtain ⟨cs, rfl, hsz⟩ := okWide_arr Tryz.underlying69 hv
  obtain ⟨fuel, hf⟩ := h
  have en : Tryz.prog.cellsOf 69 = 2 := by kernel_rfl
  have u1 : Tryz.prog.cellsOf 5 = 1 := by kernel_rfl
  rw [en] at hsz
  obtain ⟨l⟩ := cs
  match l, hsz with
  | [c0, c1], _ =>
    have A0 := open_arr (cs := [c0, c1]) Tryz.underlying5 u1 Tryz.underlying69 hf rfl
    obtain ⟨w0, e0, g0⟩ := A0 0 (by decide)
    obtain ⟨w1, e1, g1⟩ := A0 1 (by decide)
    obtain rfl := Option.some.inj e0
    obtain rfl := Option.some.inj e1
    refine ⟨fun j => [w0, w1].getD j 0, rfl, fun j hj => ?_⟩
    match j, hj with
    | 0, _ => exact bounds_u8 g0
    | 1, _ => exact bounds_u8 g1
end Go.Proofs.YthnediamopehfaaGreat
