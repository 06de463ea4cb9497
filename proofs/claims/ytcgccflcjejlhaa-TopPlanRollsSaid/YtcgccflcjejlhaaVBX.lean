/- Part of the proof: what the claim leans on. -/
import Derived.Test.YtcgccflcjejlhaaVBW
import Derived.ProofKit
import Derived.OpenShut
import Derived.ChangeOld
import Derived.Below
import Derived.Test.YtcgccflcjejlhaaVAC
import Derived.Test.YtcgccflcjejlhaaVAB
import Derived.RangeFuncNested
import Derived.RangeFuncBound
import Derived.RangeFuncCalls
import Derived.RangeFuncLeaves
import Derived.Shelf.Abstract
import Derived.Shelf.RegionOpen
import Derived.WalkKit
import Derived.OwnWalkIn
import Derived.TacticsInMore
import Derived.LoopNIn
import Derived.LoopIn
import Derived.Test.YtcgccflcjejlhaaVBA
import Derived.Test.YtcgccflcjejlhaaVAI
set_option maxRecDepth 100000
set_option linter.unusedSimpArgs false
set_option linter.unusedVariables false
namespace Go.Proofs.Ytcgccflcjejlhaa
open Go.RowKit
theorem plan_rolls_law {tb : Int} {ap ta : Option Addr} {np cp nb cb : Nat} {pv : Nat → Nat → Int} {vv bs : Nat → Int} (w : World) (hR : RowsB w ap np 2 pv) (ht : 0 ≤ tb ∧ tb ≤ 255) (hp : ∀ i j, 0 ≤ pv i j ∧ pv i j ≤ 255) (gv_ : ∀ k, 0 ≤ vv k ∧ vv k ≤ 255) (hT : ByV w ta nb bs) :
    Calls Try.prog 4 #[.agg #[.int .u8 tb, .slice ap np cp], .agg #[.int .u8 (vv 0), .int .u8 (vv 1), .int .u8 (vv 2), .int .u8 (vv 3), .int .u8 (vv 4), .int .u8 (vv 5), .int .u8 (vv 6), .int .u8 (vv 7)], .slice ta nb cb] w (fun e w' => e = .returned (.bool true) ∧ Below w.heap.size w w') :=
  rolls_all tb ap ta np cp nb cb pv vv bs w hR ht hp gv_ hT
open Go.ChangeShapes Go.WideShapes Go.ChangeAt Go.RowKit
theorem lt_of_cell1 {w : World} {a : Addr} {v : Value} (h : w.cell? a = some v) : a.block < w.heap.size := by
  rcases Nat.lt_or_ge a.block w.heap.size with hlt | hge
  · exact hlt
  · have e : w.heap[a.block]? = none := Array.getElem?_eq_none hge
    simp [World.cell?, e] at h
open Go.ChangeShapes Go.WideShapes Go.ChangeAt Go.RowKit
theorem okWide_arr {P : Program} {w : World} {r : Reach} {base : Nat} {t e : TypeId} {n : Nat} {v : Value} (ht : P.underlying t = some (.array n e)) (h : Value.okWide P w r base t v) : ∃ cs, v = .agg cs ∧ cs.size = P.cellsOf t := by
  simp only [Value.okWide, ht] at h
  obtain ⟨cs, h1, h2, _⟩ := h
  exact ⟨cs, h1, h2⟩
open Go.RowKit
structure Sh where
  x0 : Int
  x1 : Int
  x2 : Int
  x3 : Int
  xh : Int
  y0 : Int
  y1 : Int
  y2 : Int
  y3 : Int
  xo : Bool
  ca : Int
  cb : Int
  v0 : Int
  v1 : Int
  v2 : Int
  v3 : Int
  v4 : Int
open Go.RowKit
open Go.RowKit
open Go.RowKit
open Go.RowKit
open Go.RowKit
open Go.RowKit
open Go.RowKit
open Go.RowKit
open Go.RowKit Go.Shelf
attribute [local go_sem] Oper.semAt_some
open Go.RowKit
open Go.RowKit Go.Shelf
attribute [local go_sem] Oper.semAt_some
open Go.RowKit
open Go.RowKit
open Go.RowKit
open Go.RowKit
open Go.RowKit
open Go.RowKit
open Go.RowKit
open Go.RowKit
open Go.RowKit
open Go.RowKit
open Go.RowKit
open Go.RowKit
open Go.RowKit
open Go.ChangeShapes Go.WideShapes Go.ChangeAt Go.RowKit
theorem bounds_u8 {n : Int} (h : (Lit.int .u8 n).wf = true) : 0 ≤ n ∧ n ≤ 255 := by
  simp only [Lit.wf, Bool.and_eq_true, decide_eq_true_eq] at h
  exact h
theorem open_arr {k : IntKind} {e : TypeId} {H : Type} {enc : TypeId × Value → H} {W : World} {spare : Nat → Bool} {held : Bool} {fuel n : Nat} {t : TypeId} {cs : List Value} {y : DataW H × List MemPlace} (he : Try.prog.underlying e = some (.int k)) (hc : Try.prog.cellsOf e = 1) (ht : Try.prog.underlying t = some (.array n e)) (hf : DataW.trod enc Try.prog W 0 spare held fuel t cs = some y) (hn : cs.length = n) :
    ∀ i, i < n → ∃ x, cs[i]? = some (.int k x) ∧ (Lit.int k x).wf = true := by
  obtain ⟨xs, m, _, _, hl, hlen, hel⟩ := DataW.trod_array ht hf
  intro i hi
  have f := hel i hi
  rw [hc, Nat.mul_one] at f
  rw [List.getElem?_eq_getElem (by omega : i < xs.length)] at f
  obtain ⟨x, q, -, wf⟩ := DataW.trod_int he f
  refine ⟨x, ?_, wf⟩
  have h1 : ((cs.drop i).take 1)[0]? = some (.int k x) := by rw [q]; rfl
  simpa using h1
open Go.ChangeShapes Go.WideShapes Go.ChangeAt Go.RowKit
theorem open_bytes {H : Type} {enc : TypeId × Value → H} {W : World} {r : Reach} {b0 : Nat} {spare : Nat → Bool} {held : Bool} {v : Value} {d : DataW H} {ps : List MemPlace}
    (hv : Value.okWide Try.prog W r b0 59 v) (h : DataW.Trod enc Try.prog W 0 spare held 59 v d ps) : ∃ a n c bs, v = .slice a n c ∧ ByV W a n bs := by
  obtain ⟨a, n, c, rfl⟩ := okWide_slice Try.underlying59 hv
  obtain ⟨fuel, hf⟩ := h
  rcases open_ints (k := .u8) Try.underlying59 Try.underlying5 (by kernel_rfl) hf with ⟨hcs, _⟩ | ⟨x, l, c', zs, hcs, _, hl, hm, hz, _, hcell, hwz⟩
  · have e := (List.cons.inj hcs).1
    obtain ⟨rfl, rfl, rfl⟩ := Value.slice.inj e
    exact ⟨_, _, _, fun _ => 0, rfl, .inl rfl⟩
  · have e := (List.cons.inj hcs).1
    obtain ⟨rfl, rfl, rfl⟩ := Value.slice.inj e
    refine ⟨_, _, _, fun i => zs.getD i 0, rfl, ?_⟩
    by_cases h0 : n = 0
    · exact .inl h0
    · obtain ⟨b, off, spot⟩ := x
      have hz' : n ≤ zs.length := by rw [hz]; split <;> omega
      have hc := hcell 0 (by omega)
      have hspot : spot = none := by simpa [Addr.add] using World.cell?_spot hc
      subst hspot
      refine .inr ⟨b, off, rfl, ⟨lt_of_cell1 (a := (⟨b, off, none⟩ : Addr).add 0) hc, fun i hi => ?_⟩, by unfold maxLen at hm; omega, fun i hi => ?_⟩
      · have h := hcell i (by omega)
        have ea : ((⟨b, off, none⟩ : Addr).add i) = ⟨b, off + i, none⟩ := add_plain b off i
        rw [ea] at h
        rw [h]
        first | done | simp [List.getD_eq_getElem?_getD, (by omega : i < zs.length)]
      · have hlt : i < zs.length := by omega
        have := hwz (zs[i]) (List.getElem_mem hlt)
        simp only [List.getD_eq_getElem?_getD, List.getElem?_eq_getElem hlt, Option.getD_some]
        exact bounds_u8 this
open Go.ChangeShapes Go.WideShapes Go.ChangeAt Go.RowKit
section
variable {H : Type} {enc : TypeId × Value → H} {W : World} {spare : Nat → Bool} {held : Bool}
theorem open_rowsB {t e e8 : TypeId} {k fuel : Nat} {cs : List Value} {y : DataW H × List MemPlace} (ht : Try.prog.underlying t = some (.slice e)) (he : Try.prog.underlying e = some (.array k e8)) (hc : Try.prog.cellsOf e = k) (h8 : Try.prog.underlying e8 = some (.int .u8)) (u1 : Try.prog.cellsOf e8 = 1) (hk : 0 < k)
    (hf : DataW.trod enc Try.prog W 0 spare held fuel t cs = some y) : ∃ a n c pv, cs = [.slice a n c] ∧ RowsB W a n k pv ∧ ∀ i j, i < n → j < k → 0 ≤ pv i j ∧ pv i j ≤ 255 := by
  rcases DataW.trod_slice ht hf with ⟨hcs, -⟩ | ⟨x, len, cap, elems, rest, nf, -, rfl, -, -, -, -, hlen, hel, -, -⟩
  · exact ⟨none, 0, 0, fun _ _ => 0, hcs, .inl rfl, fun i j hi => by omega⟩
  · have key : ∀ i j, i < len → j < k → ∃ z, W.cell? ((x.add (i * k)).add j) = some (.int .u8 z) ∧ 0 ≤ z ∧ z ≤ 255 := by
      intro i j hi hj
      have f := hel i hi
      rw [hc, List.getElem?_eq_getElem (by omega : i < elems.length), Option.bind_eq_some_iff] at f
      obtain ⟨cs', h1, h2⟩ := f
      obtain ⟨-, h3, h4⟩ := World.cells?_some h1
      obtain ⟨z, e, w⟩ := open_arr h8 u1 he h2 h3 j hj
      exact ⟨z, (h4 j hj).trans e, bounds_u8 w⟩
    by_cases h0 : len = 0
    · subst h0
      exact ⟨some x, 0, cap, fun _ _ => 0, rfl, .inl rfl, fun i j hi => by omega⟩
    obtain ⟨b, off, spot⟩ := x
    obtain ⟨z0, hz0, -⟩ := key 0 0 (by omega) hk
    have hspot : spot = none := by simpa [Addr.add] using World.cell?_spot hz0
    subst hspot
    have ea : ∀ i j, ((⟨b, off, none⟩ : Addr).add (i * k)).add j = ⟨b, off + i * k + j, none⟩ := fun i j => by rw [add_plain, add_plain]
    have key2 : ∀ i j, i < len → j < k → ∃ z, W.cell? ⟨b, off + i * k + j, none⟩ = some (.int .u8 z) ∧ 0 ≤ z ∧ z ≤ 255 := fun i j hi hj => by
      obtain ⟨z, e, w⟩ := key i j hi hj
      rw [ea] at e
      exact ⟨z, e, w⟩
    rw [ea] at hz0
    refine ⟨some ⟨b, off, none⟩, len, cap, fun i j => if h : i < len ∧ j < k then Classical.choose (key2 i j h.1 h.2) else 0, rfl, .inr ⟨b, off, rfl, lt_of_cell1 (a := ⟨b, off + 0 * k + 0, none⟩) hz0, fun i j hi hj => ?_⟩, fun i j hi hj => ?_⟩
    · simp only [dif_pos (And.intro hi hj)]
      exact (Classical.choose_spec (key2 i j hi hj)).1
    · simp only [dif_pos (And.intro hi hj)]
      exact (Classical.choose_spec (key2 i j hi hj)).2
end
theorem rowsB_eq {W : World} {a : Option Addr} {n k : Nat} {pv qv : Nat → Nat → Int} (h : RowsB W a n k pv) (e : ∀ i j, i < n → j < k → qv i j = pv i j) : RowsB W a n k qv := by
  rcases h with h | ⟨b, o, e1, h1, h2⟩
  · exact .inl h
  · exact .inr ⟨b, o, e1, h1, fun i j hi hj => by rw [e i j hi hj]; exact h2 i j hi hj⟩
open Go.ChangeShapes Go.WideShapes Go.ChangeAt Go.RowKit
def pvD (np : Nat) (pv : Nat → Nat → Int) (i j : Nat) : Int := if i < np then (if j < 2 then pv i j else 0) else 0
theorem pvD_in {np : Nat} {pv : Nat → Nat → Int} (hp : ∀ i j, i < np → j < 2 → 0 ≤ pv i j ∧ pv i j ≤ 255) (i j : Nat) : 0 ≤ pvD np pv i j ∧ pvD np pv i j ≤ 255 := by
  unfold pvD
  split
  · split
    · exact hp i j (by assumption) (by assumption)
    · omega
  · omega
theorem open_reel {H : Type} {enc : TypeId × Value → H} {W : World} {r : Reach} {b0 : Nat} {spare : Nat → Bool} {held : Bool} {v : Value} {d : DataW H} {ps : List MemPlace}
    (hv : Value.okWide Try.prog W r b0 57 v) (h : DataW.Trod enc Try.prog W 0 spare held 57 v d ps) :
    ∃ tb ap np cp pv, v = .agg #[.int .u8 tb, .slice ap np cp] ∧ RowsB W ap np 2 pv ∧ (0 ≤ tb ∧ tb ≤ 255) ∧ ∀ i j, 0 ≤ pv i j ∧ pv i j ≤ 255 := by
  obtain ⟨cs, rfl, hsz⟩ := okWide_struct Try.underlying57 hv
  obtain ⟨fuel, hf⟩ := h
  obtain ⟨xs, n, _, _, hl, hlen, hfld⟩ := DataW.trod_struct Try.underlying57 hf
  have e2 : Try.prog.cellsOf 57 = 2 := by kernel_rfl
  rw [e2] at hsz
  have c0 : Try.prog.cellsOf 5 = 1 := by kernel_rfl
  have c1 : Try.prog.cellsOf 55 = 1 := by kernel_rfl
  obtain ⟨l⟩ := cs
  match l, hsz with
  | [x0, x1], _ =>
    match xs, hlen with
    | [y0, y1], _ =>
      have f0 : DataW.trod enc Try.prog W 0 spare held n 5 ((List.drop 0 [x0, x1]).take (Try.prog.cellsOf 5)) = some y0 := hfld 0 _ rfl
      have f1 : DataW.trod enc Try.prog W 0 spare held n 55 ((List.drop 1 [x0, x1]).take (Try.prog.cellsOf 55)) = some y1 := hfld 1 _ rfl
      rw [c0] at f0; rw [c1] at f1
      change DataW.trod enc Try.prog W 0 spare held n 5 [x0] = some y0 at f0
      change DataW.trod enc Try.prog W 0 spare held n 55 [x1] = some y1 at f1
      obtain ⟨tb, q0, -, w0⟩ := DataW.trod_int Try.underlying5 f0
      obtain ⟨ap, np, cp, pv, q1, hp, gp⟩ := open_rowsB Try.underlying55 Try.underlying125 (by kernel_rfl) Try.underlying5 (by kernel_rfl) (by decide) f1
      obtain rfl := (List.cons.inj q0).1
      obtain rfl := (List.cons.inj q1).1
      exact ⟨_, _, _, _, pvD np pv, rfl, rowsB_eq hp fun i j hi hj => by unfold pvD; rw [if_pos hi, if_pos hj], bounds_u8 w0, pvD_in gp⟩
theorem open_u8r {H : Type} {enc : TypeId × Value → H} {W : World} {r : Reach} {b0 : Nat} {spare : Nat → Bool} {held : Bool} {v : Value} {d : DataW H} {ps : List MemPlace}
    (hv : Value.okWide Try.prog W r b0 58 v) (h : DataW.Trod enc Try.prog W 0 spare held 58 v d ps) :
    ∃ vv : Nat → Int, v = .agg #[.int .u8 (vv 0), .int .u8 (vv 1), .int .u8 (vv 2), .int .u8 (vv 3), .int .u8 (vv 4), .int .u8 (vv 5), .int .u8 (vv 6), .int .u8 (vv 7)] ∧ ∀ k, 0 ≤ vv k ∧ vv k ≤ 255 := by
  obtain ⟨cs, rfl, hsz⟩ := okWide_arr Try.underlying58 hv
  obtain ⟨fuel, hf⟩ := h
  have en : Try.prog.cellsOf 58 = 8 := by kernel_rfl
  have u1 : Try.prog.cellsOf 5 = 1 := by kernel_rfl
  rw [en] at hsz
  obtain ⟨l⟩ := cs
  match l, hsz with
  | [c0, c1, c2, c3, c4, c5, c6, c7], _ =>
    have A0 := open_arr (cs := [c0, c1, c2, c3, c4, c5, c6, c7]) Try.underlying5 u1 Try.underlying58 hf rfl
    obtain ⟨w0, e0, g0⟩ := A0 0 (by decide)
    obtain ⟨w1, e1, g1⟩ := A0 1 (by decide)
    obtain ⟨w2, e2, g2⟩ := A0 2 (by decide)
    obtain ⟨w3, e3, g3⟩ := A0 3 (by decide)
    obtain ⟨w4, e4, g4⟩ := A0 4 (by decide)
    obtain ⟨w5, e5, g5⟩ := A0 5 (by decide)
    obtain ⟨w6, e6, g6⟩ := A0 6 (by decide)
    obtain ⟨w7, e7, g7⟩ := A0 7 (by decide)
    obtain rfl := Option.some.inj e0
    obtain rfl := Option.some.inj e1
    obtain rfl := Option.some.inj e2
    obtain rfl := Option.some.inj e3
    obtain rfl := Option.some.inj e4
    obtain rfl := Option.some.inj e5
    obtain rfl := Option.some.inj e6
    obtain rfl := Option.some.inj e7
    refine ⟨fun j => [w0, w1, w2, w3, w4, w5, w6, w7].getD j 0, rfl, fun j => ?_⟩
    match j with
    | 0 => exact bounds_u8 g0
    | 1 => exact bounds_u8 g1
    | 2 => exact bounds_u8 g2
    | 3 => exact bounds_u8 g3
    | 4 => exact bounds_u8 g4
    | 5 => exact bounds_u8 g5
    | 6 => exact bounds_u8 g6
    | 7 => exact bounds_u8 g7
    | q + 8 => simp
end Go.Proofs.Ytcgccflcjejlhaa
