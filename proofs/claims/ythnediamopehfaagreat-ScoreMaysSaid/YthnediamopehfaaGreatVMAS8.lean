/- Part of the proof: what the claim leans on. -/
import Derived.Test.YthnediamopehfaaGreatVMAL7
import Derived.ProofKit
import Derived.OpenShut
import Derived.ChangeOld
import Derived.Below
set_option maxRecDepth 100000
set_option linter.unusedSimpArgs false
set_option linter.unusedVariables false
namespace Go.Proofs.YthnediamopehfaaGreat
open Go.ChangeShapes Go.WideShapes Go.ChangeAt Go.RowKit
theorem lt_of_cell1 {w : World} {a : Addr} {v : Value} (h : w.cell? a = some v) : a.block < w.heap.size := by
  rcases Nat.lt_or_ge a.block w.heap.size with hlt | hge
  · exact hlt
  · have e : w.heap[a.block]? = none := Array.getElem?_eq_none hge
    simp [World.cell?, e] at h
theorem open_ints_ii {H : Type} {enc : TypeId × Value → H} {W : World} {spare : Nat → Bool} {held : Bool} {n : Nat} {cs : List Value} {y : DataW H × List MemPlace}
    (hy : DataW.trod enc Tryz.prog W 0 spare held n 22 cs = some y) : ∃ a c xs, cs = [.slice a xs.length c] ∧ Ii W a xs.length c xs ∧ ∀ x ∈ xs, (Lit.int .i64 x).wf = true := by
  rcases open_ints (k := .i64) Tryz.underlying22 Tryz.underlying3 (by kernel_rfl) hy with ⟨hcs, _⟩ | ⟨x, l, c, zs, hcs, _, hl, hm, hz, _, hcell, hwz⟩
  · exact ⟨none, 0, [], hcs, ⟨rfl, Nat.le_refl _, by unfold maxLen; omega, by simp, .inl rfl⟩, by simp⟩
  · have hz' : l ≤ zs.length := by rw [hz]; split <;> omega
    have e : (zs.take l).length = l := by simp; omega
    refine ⟨some x, c, zs.take l, by rw [e]; exact hcs, ⟨rfl, by rw [e]; exact hl, hm, by simp, ?_⟩, fun x hx => hwz x (List.mem_of_mem_take hx)⟩
    by_cases h0 : l = 0
    · left; subst h0; simp
    · right
      obtain ⟨b, off, spot⟩ := x
      have hc := hcell 0 (by omega)
      have hspot : spot = none := by simpa [Addr.add] using World.cell?_spot hc
      subst hspot
      refine ⟨b, off, rfl, lt_of_cell1 (a := (⟨b, off, none⟩ : Addr).add 0) hc, fun i hi => ?_⟩
      have hi' : i < l := by simp at hi; omega
      have h := hcell i (by omega)
      have ea : ((⟨b, off, none⟩ : Addr).add i) = ⟨b, off + i, none⟩ := add_plain b off i
      rw [ea] at h
      rw [h]
      simp [List.getD_eq_getElem?_getD, hi', (by omega : i < zs.length)]
theorem open_blank {H : Type} {enc : TypeId × Value → H} {W : World} {r : Reach} {b0 : Nat} {spare : Nat → Bool} {held : Bool} {v : Value} {d : DataW H} {ps : List MemPlace}
    (hv : Value.okWide Tryz.prog W r b0 24 v) (h : DataW.Trod enc Tryz.prog W 0 spare held 24 v d ps) :
    ∃ a1 c1 a2 c2 a3 c3 b, v = .agg #[.int .i64 (Bl.tab b), .slice a1 b.panels.length c1, .int .i64 b.height, .slice a2 b.top.length c2, .slice a3 b.bottom.length c3, .int .i64 b.slot, .bool b.isOpen] ∧
      Ii W a1 b.panels.length c1 b.panels ∧ Ii W a2 b.top.length c2 b.top ∧ Ii W a3 b.bottom.length c3 b.bottom ∧
      ((Lit.int .i64 b.tab).wf = true ∧ (Lit.int .i64 b.height).wf = true ∧ (Lit.int .i64 b.slot).wf = true) ∧ (∀ x ∈ b.panels ++ (b.top ++ b.bottom), (Lit.int .i64 x).wf = true) := by
  obtain ⟨cs, rfl, hsz⟩ := okWide_struct Tryz.underlying24 hv
  obtain ⟨fuel, hf⟩ := h
  obtain ⟨xs, n, _, _, hl, hlen, hfld⟩ := DataW.trod_struct Tryz.underlying24 hf
  have e7 : Tryz.prog.cellsOf 24 = 7 := by kernel_rfl
  rw [e7] at hsz
  obtain ⟨l⟩ := cs
  match l, hsz with
  | [x0, x1, x2, x3, x4, x5, x6], _ =>
    match xs, hlen with
    | [y0, y1, y2, y3, y4, y5, y6], _ =>
      have i1 : Tryz.prog.cellsOf 3 = 1 := by kernel_rfl
      have l1 : Tryz.prog.cellsOf 22 = 1 := by kernel_rfl
      have o1 : Tryz.prog.cellsOf 4 = 1 := by kernel_rfl
      have f0 : DataW.trod enc Tryz.prog W 0 spare held n 3 ((List.drop 0 [x0, x1, x2, x3, x4, x5, x6]).take (Tryz.prog.cellsOf 3)) = some y0 := hfld 0 _ rfl
      rw [i1] at f0; change DataW.trod enc Tryz.prog W 0 spare held n 3 [x0] = some y0 at f0
      have f1 : DataW.trod enc Tryz.prog W 0 spare held n 22 ((List.drop 1 [x0, x1, x2, x3, x4, x5, x6]).take (Tryz.prog.cellsOf 22)) = some y1 := hfld 1 _ rfl
      rw [l1] at f1; change DataW.trod enc Tryz.prog W 0 spare held n 22 [x1] = some y1 at f1
      have f2 : DataW.trod enc Tryz.prog W 0 spare held n 3 ((List.drop 2 [x0, x1, x2, x3, x4, x5, x6]).take (Tryz.prog.cellsOf 3)) = some y2 := hfld 2 _ rfl
      rw [i1] at f2; change DataW.trod enc Tryz.prog W 0 spare held n 3 [x2] = some y2 at f2
      have f3 : DataW.trod enc Tryz.prog W 0 spare held n 22 ((List.drop 3 [x0, x1, x2, x3, x4, x5, x6]).take (Tryz.prog.cellsOf 22)) = some y3 := hfld 3 _ rfl
      rw [l1] at f3; change DataW.trod enc Tryz.prog W 0 spare held n 22 [x3] = some y3 at f3
      have f4 : DataW.trod enc Tryz.prog W 0 spare held n 22 ((List.drop 4 [x0, x1, x2, x3, x4, x5, x6]).take (Tryz.prog.cellsOf 22)) = some y4 := hfld 4 _ rfl
      rw [l1] at f4; change DataW.trod enc Tryz.prog W 0 spare held n 22 [x4] = some y4 at f4
      have f5 : DataW.trod enc Tryz.prog W 0 spare held n 3 ((List.drop 5 [x0, x1, x2, x3, x4, x5, x6]).take (Tryz.prog.cellsOf 3)) = some y5 := hfld 5 _ rfl
      rw [i1] at f5; change DataW.trod enc Tryz.prog W 0 spare held n 3 [x5] = some y5 at f5
      have f6 : DataW.trod enc Tryz.prog W 0 spare held n 4 ((List.drop 6 [x0, x1, x2, x3, x4, x5, x6]).take (Tryz.prog.cellsOf 4)) = some y6 := hfld 6 _ rfl
      rw [o1] at f6; change DataW.trod enc Tryz.prog W 0 spare held n 4 [x6] = some y6 at f6
      obtain ⟨tab, q0, -, w0⟩ := DataW.trod_int Tryz.underlying3 f0
      obtain ⟨a1, c1, p, q1, j1, z1⟩ := open_ints_ii f1
      obtain ⟨hh, q2, -, w2⟩ := DataW.trod_int Tryz.underlying3 f2
      obtain ⟨a2, c2, t, q3, j3, z3⟩ := open_ints_ii f3
      obtain ⟨a3, c3, u, q4, j4, z4⟩ := open_ints_ii f4
      obtain ⟨slot, q5, -, w5⟩ := DataW.trod_int Tryz.underlying3 f5
      obtain ⟨op, q6, -⟩ := DataW.trod_bool Tryz.underlying4 f6
      obtain rfl := (List.cons.inj q0).1
      obtain rfl := (List.cons.inj q1).1
      obtain rfl := (List.cons.inj q2).1
      obtain rfl := (List.cons.inj q3).1
      obtain rfl := (List.cons.inj q4).1
      obtain rfl := (List.cons.inj q5).1
      obtain rfl := (List.cons.inj q6).1
      refine ⟨a1, c1, a2, c2, a3, c3, ⟨tab, p, hh, t, u, slot, op⟩, rfl, j1, j3, j4, ⟨w0, w2, w5⟩, fun x hx => ?_⟩
      simp only [List.mem_append] at hx
      rcases hx with hx | hx | hx
      · exact z1 x hx
      · exact z3 x hx
      · exact z4 x hx
open Go.ChangeShapes Go.WideShapes Go.ChangeAt Go.RowKit
theorem open_spanc {H : Type} {enc : TypeId × Value → H} {W : World} {spare : Nat → Bool} {held : Bool} {fuel : Nat} {x0 x1 : Value} {y : DataW H × List MemPlace}
    (hf : DataW.trod enc Tryz.prog W 0 spare held fuel 26 [x0, x1] = some y) : ∃ lo hi, x0 = .int .i64 lo ∧ x1 = .int .i64 hi ∧ (Lit.int .i64 lo).wf = true ∧ (Lit.int .i64 hi).wf = true := by
  obtain ⟨xs, n, _, _, hl, hlen, hfld⟩ := DataW.trod_struct Tryz.underlying26 hf
  match xs, hlen with
  | [y0, y1], _ =>
    have i1 : Tryz.prog.cellsOf 3 = 1 := by kernel_rfl
    have f0 : DataW.trod enc Tryz.prog W 0 spare held n 3 ((List.drop 0 [x0, x1]).take (Tryz.prog.cellsOf 3)) = some y0 := hfld 0 _ rfl
    have f1 : DataW.trod enc Tryz.prog W 0 spare held n 3 ((List.drop 1 [x0, x1]).take (Tryz.prog.cellsOf 3)) = some y1 := hfld 1 _ rfl
    rw [i1] at f0 f1
    change DataW.trod enc Tryz.prog W 0 spare held n 3 [x0] = some y0 at f0
    change DataW.trod enc Tryz.prog W 0 spare held n 3 [x1] = some y1 at f1
    obtain ⟨lo, q0, -, w0⟩ := DataW.trod_int Tryz.underlying3 f0
    obtain ⟨hi, q1, -, w1⟩ := DataW.trod_int Tryz.underlying3 f1
    exact ⟨lo, hi, (List.cons.inj q0).1, (List.cons.inj q1).1, w0, w1⟩
open Go.ChangeShapes Go.WideShapes Go.ChangeAt Go.RowKit
theorem open_wish {H : Type} {enc : TypeId × Value → H} {W : World} {r : Reach} {b0 : Nat} {spare : Nat → Bool} {held : Bool} {v : Value} {d : DataW H} {ps : List MemPlace}
    (hv : Value.okWide Tryz.prog W r b0 43 v) (h : DataW.Trod enc Tryz.prog W 0 spare held 43 v d ps) :
    ∃ l1 h1 l2 h2 l3 h3 l4 h4 l5 h5 wo, v = .agg #[.int .i64 l1, .int .i64 h1, .int .i64 l2, .int .i64 h2, .int .i64 l3, .int .i64 h3, .int .i64 l4, .int .i64 h4, .int .i64 l5, .int .i64 h5, .bool wo] := by
  obtain ⟨cs, rfl, hsz⟩ := okWide_struct Tryz.underlying43 hv
  obtain ⟨fuel, hf⟩ := h
  obtain ⟨xs, n, _, _, hl, hlen, hfld⟩ := DataW.trod_struct Tryz.underlying43 hf
  have e11 : Tryz.prog.cellsOf 43 = 11 := by kernel_rfl
  rw [e11] at hsz
  have s2 : Tryz.prog.cellsOf 26 = 2 := by kernel_rfl
  have o1 : Tryz.prog.cellsOf 4 = 1 := by kernel_rfl
  obtain ⟨l⟩ := cs
  match l, hsz with
  | [x0, x1, x2, x3, x4, x5, x6, x7, x8, x9, x10], _ =>
    match xs, hlen with
    | [y0, y1, y2, y3, y4, y5], _ =>
      have f0 : DataW.trod enc Tryz.prog W 0 spare held n 26 ((List.drop 0 [x0, x1, x2, x3, x4, x5, x6, x7, x8, x9, x10]).take (Tryz.prog.cellsOf 26)) = some y0 := hfld 0 _ rfl
      have f1 : DataW.trod enc Tryz.prog W 0 spare held n 26 ((List.drop 2 [x0, x1, x2, x3, x4, x5, x6, x7, x8, x9, x10]).take (Tryz.prog.cellsOf 26)) = some y1 := hfld 1 _ rfl
      have f2 : DataW.trod enc Tryz.prog W 0 spare held n 26 ((List.drop 4 [x0, x1, x2, x3, x4, x5, x6, x7, x8, x9, x10]).take (Tryz.prog.cellsOf 26)) = some y2 := hfld 2 _ rfl
      have f3 : DataW.trod enc Tryz.prog W 0 spare held n 26 ((List.drop 6 [x0, x1, x2, x3, x4, x5, x6, x7, x8, x9, x10]).take (Tryz.prog.cellsOf 26)) = some y3 := hfld 3 _ rfl
      have f4 : DataW.trod enc Tryz.prog W 0 spare held n 26 ((List.drop 8 [x0, x1, x2, x3, x4, x5, x6, x7, x8, x9, x10]).take (Tryz.prog.cellsOf 26)) = some y4 := hfld 4 _ rfl
      have f5 : DataW.trod enc Tryz.prog W 0 spare held n 4 ((List.drop 10 [x0, x1, x2, x3, x4, x5, x6, x7, x8, x9, x10]).take (Tryz.prog.cellsOf 4)) = some y5 := hfld 5 _ rfl
      rw [s2] at f0; change DataW.trod enc Tryz.prog W 0 spare held n 26 [x0, x1] = some y0 at f0
      rw [s2] at f1; change DataW.trod enc Tryz.prog W 0 spare held n 26 [x2, x3] = some y1 at f1
      rw [s2] at f2; change DataW.trod enc Tryz.prog W 0 spare held n 26 [x4, x5] = some y2 at f2
      rw [s2] at f3; change DataW.trod enc Tryz.prog W 0 spare held n 26 [x6, x7] = some y3 at f3
      rw [s2] at f4; change DataW.trod enc Tryz.prog W 0 spare held n 26 [x8, x9] = some y4 at f4
      rw [o1] at f5; change DataW.trod enc Tryz.prog W 0 spare held n 4 [x10] = some y5 at f5
      obtain ⟨l1, h1, rfl, rfl, -⟩ := open_spanc f0
      obtain ⟨l2, h2, rfl, rfl, -⟩ := open_spanc f1
      obtain ⟨l3, h3, rfl, rfl, -⟩ := open_spanc f2
      obtain ⟨l4, h4, rfl, rfl, -⟩ := open_spanc f3
      obtain ⟨l5, h5, rfl, rfl, -⟩ := open_spanc f4
      obtain ⟨wo, q5, -⟩ := DataW.trod_bool Tryz.underlying4 f5
      obtain rfl := (List.cons.inj q5).1
      exact ⟨l1, h1, l2, h2, l3, h3, l4, h4, l5, h5, wo, rfl⟩
open Go.ChangeShapes Go.WideShapes Go.ChangeAt Go.RowKit
theorem open_truths {H : Type} {enc : TypeId × Value → H} {W : World} {r : Reach} {b0 : Nat} {spare : Nat → Bool} {held : Bool} {v : Value} {d : DataW H} {ps : List MemPlace}
    (hv : Value.okWide Tryz.prog W r b0 63 v) (h : DataW.Trod enc Tryz.prog W 0 spare held 63 v d ps) :
    ∃ lo hi off, v = .agg #[.int .i64 lo, .int .i64 hi, .int .i64 off] := by
  obtain ⟨cs, rfl, hsz⟩ := okWide_struct Tryz.underlying63 hv
  obtain ⟨fuel, hf⟩ := h
  obtain ⟨xs, n, _, _, hl, hlen, hfld⟩ := DataW.trod_struct Tryz.underlying63 hf
  have e3 : Tryz.prog.cellsOf 63 = 3 := by kernel_rfl
  rw [e3] at hsz
  have s2 : Tryz.prog.cellsOf 26 = 2 := by kernel_rfl
  have i1 : Tryz.prog.cellsOf 3 = 1 := by kernel_rfl
  obtain ⟨l⟩ := cs
  match l, hsz with
  | [x0, x1, x2], _ =>
    match xs, hlen with
    | [y0, y1], _ =>
      have f0 : DataW.trod enc Tryz.prog W 0 spare held n 26 ((List.drop 0 [x0, x1, x2]).take (Tryz.prog.cellsOf 26)) = some y0 := hfld 0 _ rfl
      have f1 : DataW.trod enc Tryz.prog W 0 spare held n 3 ((List.drop 2 [x0, x1, x2]).take (Tryz.prog.cellsOf 3)) = some y1 := hfld 1 _ rfl
      rw [s2] at f0; change DataW.trod enc Tryz.prog W 0 spare held n 26 [x0, x1] = some y0 at f0
      rw [i1] at f1; change DataW.trod enc Tryz.prog W 0 spare held n 3 [x2] = some y1 at f1
      obtain ⟨lo, hi, rfl, rfl, -⟩ := open_spanc f0
      obtain ⟨off, q1, -⟩ := DataW.trod_int Tryz.underlying3 f1
      obtain rfl := (List.cons.inj q1).1
      exact ⟨lo, hi, off, rfl⟩
end Go.Proofs.YthnediamopehfaaGreat
