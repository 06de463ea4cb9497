/- Part of the proof: what the claim leans on. -/
import Derived.ProofKit
import Derived.OpenShut
import Derived.ChangeOld
import Derived.Below
import Derived.Test.YtnhipdbdolabkaaWAD
import Derived.Test.YtnhipdbdolabkaaWAH
import Derived.Test.YtnhipdbdolabkaaWAI
import Derived.Test.YtnhipdbdolabkaaWAG
set_option linter.unusedSimpArgs false
set_option linter.unusedVariables false
namespace Go.Proofs.Ytnhipdbdolabkaa
open Go.ChangeShapes Go.WideShapes Go.ChangeAt Go.RowKit
end Go.Proofs.Ytnhipdbdolabkaa
namespace Go.Proofs.Ytnhipdbdolabkaa
open Go.ChangeShapes Go.WideShapes Go.ChangeAt Go.RowKit
theorem okWide_arr {P : Program} {w : World} {r : Reach} {base : Nat} {t e : TypeId} {n : Nat} {v : Value} (ht : P.underlying t = some (.array n e)) (h : Value.okWide P w r base t v) : ∃ cs, v = .agg cs ∧ cs.size = P.cellsOf t := by
  simp only [Value.okWide, ht] at h
  obtain ⟨cs, h1, h2, _⟩ := h
  exact ⟨cs, h1, h2⟩
end Go.Proofs.Ytnhipdbdolabkaa
namespace Go.Proofs.Ytnhipdbdolabkaa
open Go.ChangeShapes Go.WideShapes Go.ChangeAt Go.RowKit
theorem bounds_u8 {n : Int} (h : (Lit.int .u8 n).wf = true) : 0 ≤ n ∧ n ≤ 255 := by
  simp only [Lit.wf, Bool.and_eq_true, decide_eq_true_eq] at h
  exact h
/-- Small whole numbers in an array: each cell is one. -/
theorem open_arr {k : IntKind} {e : TypeId} {H : Type} {enc : TypeId × Value → H} {W : World} {spare : Nat → Bool} {held : Bool} {fuel n : Nat} {t : TypeId} {cs : List Value} {y : DataW H × List MemPlace} (he : Try.prog.underlying e = some (.int k)) (hc : Try.prog.cellsOf e = 1) (ht : Try.prog.underlying t = some (.array n e)) (hf : DataW.trod enc Try.prog W 0 spare held fuel t cs = some y) (hn : cs.length = n) :
    ∀ i, i < n → ∃ x, cs[i]? = some (.int k x) ∧ (Lit.int k x).wf = true := by
  obtain ⟨xs, m, _, _, hl, hlen, hel⟩ := DataW.trod_array ht hf
  intro i hi
  have f := hel i hi
  rw [hc, Nat.mul_one] at f
  rw [List.getElem?_eq_getElem (by omega : i < xs.length)] at f
  obtain ⟨x, q, -, wf⟩ := DataW.trod_int he f
  refine ⟨x, ?_, wf⟩
  have h1 : ((cs.drop i).take 1)[0]? = some (.int k x) := by rw [q]; rfl
  simpa using h1
end Go.Proofs.Ytnhipdbdolabkaa
namespace Go.Proofs.Ytnhipdbdolabkaa
open Go.RowKit
end Go.Proofs.Ytnhipdbdolabkaa
namespace Go.Proofs.Ytnhipdbdolabkaa
open Go.ChangeShapes Go.WideShapes Go.ChangeAt Go.RowKit
/-- Small whole numbers in an array of arrays: each cell is one. -/
theorem open_arr2 {k : IntKind} {e e2 : TypeId} {H : Type} {enc : TypeId × Value → H} {W : World} {spare : Nat → Bool} {held : Bool} {fuel n m : Nat} {t : TypeId} {cs : List Value} {y : DataW H × List MemPlace} (he : Try.prog.underlying e = some (.int k)) (hc : Try.prog.cellsOf e = 1) (he2 : Try.prog.underlying e2 = some (.array m e)) (hc2 : Try.prog.cellsOf e2 = m) (ht : Try.prog.underlying t = some (.array n e2)) (hf : DataW.trod enc Try.prog W 0 spare held fuel t cs = some y) (hn : cs.length = n * m) :
    ∀ i j, i < n → j < m → ∃ x, cs[i * m + j]? = some (.int k x) ∧ (Lit.int k x).wf = true := by
  obtain ⟨xs, m', _, _, hl, hlen, hel⟩ := DataW.trod_array ht hf
  intro i j hi hj
  have f := hel i hi
  rw [hc2, List.getElem?_eq_getElem (by omega : i < xs.length)] at f
  have hle : (i + 1) * m ≤ n * m := Nat.mul_le_mul_right m hi
  rw [Nat.add_mul, Nat.one_mul] at hle
  obtain ⟨x, e1, w⟩ := open_arr he hc he2 f (by rw [List.length_take, List.length_drop]; omega) j hj
  refine ⟨x, ?_, w⟩
  rw [List.getElem?_take_of_lt hj, List.getElem?_drop] at e1
  exact e1
end Go.Proofs.Ytnhipdbdolabkaa
namespace Go.Proofs.Ytnhipdbdolabkaa
open Go.ChangeShapes Go.WideShapes Go.ChangeAt Go.RowKit
set_option maxRecDepth 100000 in
theorem open_sheets {H : Type} {enc : TypeId × Value → H} {W : World} {r : Reach} {b0 : Nat} {spare : Nat → Bool} {held : Bool} {v : Value} {d : DataW H} {ps : List MemPlace}
    (hv : Value.okWide Try.prog W r b0 27 v) (h : DataW.Trod enc Try.prog W 0 spare held 27 v d ps) :
    ∃ sv : Nat → Int, v = .agg #[.int .u8 (sv 0), .int .u8 (sv 1), .int .u8 (sv 2), .int .u8 (sv 3), .int .u8 (sv 4), .int .u8 (sv 5), .int .u8 (sv 6), .int .u8 (sv 7), .int .u8 (sv 8), .int .u8 (sv 9), .int .u8 (sv 10), .int .u8 (sv 11), .int .u8 (sv 12), .int .u8 (sv 13), .int .u8 (sv 14), .int .u8 (sv 15), .int .u8 (sv 16), .int .u8 (sv 17), .int .u8 (sv 18), .int .u8 (sv 19), .int .u8 (sv 20), .int .u8 (sv 21), .int .u8 (sv 22), .int .u8 (sv 23), .int .u8 (sv 24), .int .u8 (sv 25), .int .u8 (sv 26), .int .u8 (sv 27), .int .u8 (sv 28), .int .u8 (sv 29), .int .u8 (sv 30)] ∧ ∀ k, 0 ≤ sv k ∧ sv k ≤ 255 := by
  obtain ⟨cs, rfl, hsz⟩ := okWide_struct Try.underlying27 hv
  obtain ⟨fuel, hf⟩ := h
  obtain ⟨xs, n, _, _, hl, hlen, hfld⟩ := DataW.trod_struct Try.underlying27 hf
  have e31 : Try.prog.cellsOf 27 = 31 := by kernel_rfl
  rw [e31] at hsz
  have c21 : Try.prog.cellsOf 23 = 21 := by kernel_rfl
  have c7 : Try.prog.cellsOf 22 = 7 := by kernel_rfl
  have c9 : Try.prog.cellsOf 25 = 9 := by kernel_rfl
  have c3 : Try.prog.cellsOf 24 = 3 := by kernel_rfl
  have u1 : Try.prog.cellsOf 5 = 1 := by kernel_rfl
  obtain ⟨l⟩ := cs
  have hl31 : l.length = 31 := hsz
  match xs, hlen with
  | [y0, y1, y2], _ =>
    have f0 : DataW.trod enc Try.prog W 0 spare held n 23 ((l.drop 0).take (Try.prog.cellsOf 23)) = some y0 := hfld 0 _ rfl
    have f1 : DataW.trod enc Try.prog W 0 spare held n 5 ((l.drop 21).take (Try.prog.cellsOf 5)) = some y1 := hfld 1 _ rfl
    have f2 : DataW.trod enc Try.prog W 0 spare held n 25 ((l.drop 22).take (Try.prog.cellsOf 25)) = some y2 := hfld 2 _ rfl
    rw [c21] at f0
    rw [u1] at f1
    rw [c9] at f2
    have A0 := open_arr2 Try.underlying5 u1 Try.underlying22 c7 Try.underlying23 f0 (by rw [List.length_take, List.length_drop]; omega)
    have A2 := open_arr2 Try.underlying5 u1 Try.underlying24 c3 Try.underlying25 f2 (by rw [List.length_take, List.length_drop]; omega)
    have A1 : ∃ x, l[21]? = some (.int .u8 x) ∧ (Lit.int .u8 x).wf = true := by
      obtain ⟨x, e1, -, hw⟩ := DataW.trod_int Try.underlying5 f1
      refine ⟨x, ?_, hw⟩
      have : ((l.drop 21).take 1)[0]? = some (.int .u8 x) := by rw [e1]; rfl
      rw [List.getElem?_take_of_lt (by decide), List.getElem?_drop] at this
      exact this
    have key : ∀ i, i < 31 → ∃ x, l[i]? = some (.int .u8 x) ∧ 0 ≤ x ∧ x ≤ 255 := by
      intro i hi
      by_cases h1 : i < 21
      · obtain ⟨x, e, w⟩ := A0 (i / 7) (i % 7) (by omega) (by omega)
        refine ⟨x, ?_, bounds_u8 w⟩
        rw [show i / 7 * 7 + i % 7 = i by omega, List.getElem?_take_of_lt h1, List.getElem?_drop, Nat.zero_add] at e
        exact e
      · by_cases h2 : i = 21
        · subst h2; obtain ⟨x, e, w⟩ := A1; exact ⟨x, e, bounds_u8 w⟩
        · obtain ⟨x, e, w⟩ := A2 ((i - 22) / 3) ((i - 22) % 3) (by omega) (by omega)
          refine ⟨x, ?_, bounds_u8 w⟩
          rw [show (i - 22) / 3 * 3 + (i - 22) % 3 = i - 22 by omega, List.getElem?_take_of_lt (by omega), List.getElem?_drop, show 22 + (i - 22) = i by omega] at e
          exact e
    obtain ⟨sv, hsv⟩ : ∃ sv : Nat → Int, (∀ i, i < 31 → l[i]? = some (.int .u8 (sv i))) ∧ ∀ k, 0 ≤ sv k ∧ sv k ≤ 255 := by
      refine ⟨fun i => if h : i < 31 then Classical.choose (key i h) else 0, fun i hi => ?_, fun k => ?_⟩
      · simp only [dif_pos hi]; exact (Classical.choose_spec (key i hi)).1
      · by_cases hk : k < 31
        · simp only [dif_pos hk]; exact (Classical.choose_spec (key k hk)).2
        · simp only [dif_neg hk]; omega
    refine ⟨sv, ?_, hsv.2⟩
    have e : l = (List.range 31).map fun i => Value.int .u8 (sv i) := by
      apply List.ext_getElem?
      intro i
      by_cases hi : i < 31
      · rw [hsv.1 i hi, List.getElem?_map, List.getElem?_range hi]; rfl
      · rw [List.getElem?_eq_none (by omega), List.getElem?_eq_none (by simp; omega)]
    subst e
    rfl
end Go.Proofs.Ytnhipdbdolabkaa
