/- Part of the proof: what the claim leans on. -/
import Derived.Test.YtolnpbpeifpbjaaVBB
import Derived.Test.YtolnpbpeifpbjaaVAX
import Derived.ProofKit
import Derived.OpenShut
import Derived.ChangeOld
import Derived.Below
import Derived.Test.YtolnpbpeifpbjaaVAC
import Derived.Test.YtolnpbpeifpbjaaVAV
import Derived.Test.YtolnpbpeifpbjaaVAT
set_option maxRecDepth 100000
set_option linter.unusedSimpArgs false
set_option linter.unusedVariables false
namespace Go.Proofs.Ytolnpbpeifpbjaa
open Go.RowKit
theorem stack_law {ap af ay : Option Addr} {np cp nf cf nb cb : Nat} {bv fb : Nat → Nat → Int} {bs ws : Nat → Int} (w : World) (hRp : RowsB w ap np 6 bv) (hRf : RowsB w af nf 3 fb) (hwb : WareB np nf bv fb) (hT : ByV w ay nb bs) (gws : ∀ k, 0 ≤ ws k ∧ ws k ≤ 255) :
    Calls Try.prog 4 #[.agg #[.slice ap np cp, .slice af nf cf, .slice ay nb cb], .agg #[.int .u8 (ws 0), .int .u8 (ws 1), .int .u8 (ws 2), .int .u8 (ws 3)]] w (fun e w' => e = .returned (.bool true) ∧ Below w.heap.size w w') := by
  obtain ⟨m1, m2, ka, kb, ⟨j1, j2, j3⟩, hme⟩ := measure_w hwb.1 hwb.2.1 (n := max 2 (min 5 np)) (mm := max 1 (min 3 nf)) (nb := nb) (bs := bs) (by omega) (by omega) (mkIn_of (by omega) nb bs)
  have g0 := gws 0; have g1 := gws 1; have g2 := gws 2; have g3 := gws 3
  have hck1 : checkErr (⟨0, [(150 + ws 0) + (2 * ((kb + 999) / 1000) + ws 3 % 5), (120 + ws 1) + (2 * ((kb + 999) / 1000) + ws 3 % 5), (150 + ws 0) + (2 * ((kb + 999) / 1000) + ws 3 % 5), (120 + ws 1) + (2 * ((kb + 999) / 1000) + ws 3 % 5)], 60 + ws 2, [0, 0], [60, 60], 10, true⟩ : Bl) = 0 := check_ok (by omega) (by omega) (by omega) (by omega) (by omega) (by omega) (by omega) (by omega) (by omega) (by omega) (by omega) (fun _ => ⟨rfl, rfl⟩)
  have hck2 : checkErr (⟨0, [150 + ws 0, 120 + ws 1, 150 + ws 0, 120 + ws 1], 60 + ws 2, [0, 0], [60, 60], 10, true⟩ : Bl) = 0 := check_ok (by omega) (by omega) (by omega) (by omega) (by omega) (by omega) (by omega) (by omega) (by omega) (by omega) (by omega) (fun _ => ⟨rfl, rfl⟩)
  refine stack_main ap af ay np cp nf cf nb cb _ _ bv fb bs (ws 0) (ws 1) (ws 2) (ws 3) m1 m2 ka kb _ _ (2 * ((kb + 999) / 1000) + ws 3 % 5) _ _ (⟨0, [(150 + ws 0) + (2 * ((kb + 999) / 1000) + ws 3 % 5), (120 + ws 1) + (2 * ((kb + 999) / 1000) + ws 3 % 5), (150 + ws 0) + (2 * ((kb + 999) / 1000) + ws 3 % 5), (120 + ws 1) + (2 * ((kb + 999) / 1000) + ws 3 % 5)], 60 + ws 2, [0, 0], [60, 60], 10, true⟩ : Bl) (⟨0, [150 + ws 0, 120 + ws 1, 150 + ws 0, 120 + ws 1], 60 + ws 2, [0, 0], [60, 60], 10, true⟩ : Bl) _ _ _ _ _ w hRp hRf hwb rfl rfl hT hme j1 j2 j3 g0 g1 g2 g3 rfl rfl hck1 hck2 rfl rfl rfl rfl (play_len hck1 hck2) (fun i hi => ?_) rfl rfl (by omega) rfl rfl rfl rfl (fun h => inside_mono j2 h) (fun h => inside_grow (b := (⟨0, [150 + ws 0, 120 + ws 1, 150 + ws 0, 120 + ws 1], 60 + ws 2, [0, 0], [60, 60], 10, true⟩ : Bl)) (d := (⟨0, [(150 + ws 0) + (2 * ((kb + 999) / 1000) + ws 3 % 5), (120 + ws 1) + (2 * ((kb + 999) / 1000) + ws 3 % 5), (150 + ws 0) + (2 * ((kb + 999) / 1000) + ws 3 % 5), (120 + ws 1) + (2 * ((kb + 999) / 1000) + ws 3 % 5)], 60 + ws 2, [0, 0], [60, 60], 10, true⟩ : Bl)) ?_ ?_ ?_ ?_ rfl h)
  · rw [play_nth hck1 hck2 hi]
    match i, hi with
    | 0, _ => exact Prod.ext (by show 1000 * ((150 + ws 0) + (2 * ((kb + 999) / 1000) + ws 3 % 5) - (150 + ws 0)) - kb - kb = _; omega) (by show 1000 * ((150 + ws 0) + (2 * ((kb + 999) / 1000) + ws 3 % 5) - (150 + ws 0)) - ka - ka = _; omega)
    | 1, _ => exact Prod.ext (by show 1000 * ((120 + ws 1) + (2 * ((kb + 999) / 1000) + ws 3 % 5) - (120 + ws 1)) - kb - kb = _; omega) (by show 1000 * ((120 + ws 1) + (2 * ((kb + 999) / 1000) + ws 3 % 5) - (120 + ws 1)) - ka - ka = _; omega)
    | 2, _ => exact Prod.ext (by show 1000 * ((150 + ws 0) + (2 * ((kb + 999) / 1000) + ws 3 % 5) - (150 + ws 0)) - kb - kb = _; omega) (by show 1000 * ((150 + ws 0) + (2 * ((kb + 999) / 1000) + ws 3 % 5) - (150 + ws 0)) - ka - ka = _; omega)
    | 3, _ => exact Prod.ext (by show 1000 * ((120 + ws 1) + (2 * ((kb + 999) / 1000) + ws 3 % 5) - (120 + ws 1)) - kb - kb = _; omega) (by show 1000 * ((120 + ws 1) + (2 * ((kb + 999) / 1000) + ws 3 % 5) - (120 + ws 1)) - ka - ka = _; omega)
  · show 150 + ws 0 ≤ (150 + ws 0) + (2 * ((kb + 999) / 1000) + ws 3 % 5); omega
  · show 120 + ws 1 ≤ (120 + ws 1) + (2 * ((kb + 999) / 1000) + ws 3 % 5); omega
  · show 150 + ws 0 ≤ (150 + ws 0) + (2 * ((kb + 999) / 1000) + ws 3 % 5); omega
  · show 120 + ws 1 ≤ (120 + ws 1) + (2 * ((kb + 999) / 1000) + ws 3 % 5); omega
open Go.ChangeShapes Go.WideShapes Go.ChangeAt Go.RowKit
theorem lt_of_cell1 {w : World} {a : Addr} {v : Value} (h : w.cell? a = some v) : a.block < w.heap.size := by
  rcases Nat.lt_or_ge a.block w.heap.size with hlt | hge
  · exact hlt
  · have e : w.heap[a.block]? = none := Array.getElem?_eq_none hge
    simp [World.cell?, e] at h
open Go.ChangeShapes Go.WideShapes Go.ChangeAt Go.RowKit
theorem okWide_arr {P : Program} {w : World} {r : Reach} {base : Nat} {t e : TypeId} {n : Nat} {v : Value} (ht : P.underlying t = some (.array n e)) (h : Value.okWide P w r base t v) : ∃ cs, v = .agg cs ∧ cs.size = P.cellsOf t := by
  simp only [Value.okWide, ht] at h
  obtain ⟨cs, h1, h2, _⟩ := h
  exact ⟨cs, h1, h2⟩
open Go.ChangeShapes Go.WideShapes Go.ChangeAt Go.RowKit
theorem bounds_u8 {n : Int} (h : (Lit.int .u8 n).wf = true) : 0 ≤ n ∧ n ≤ 255 := by
  simp only [Lit.wf, Bool.and_eq_true, decide_eq_true_eq] at h
  exact h
theorem open_arr {k : IntKind} {e : TypeId} {H : Type} {enc : TypeId × Value → H} {W : World} {spare : Nat → Bool} {held : Bool} {fuel n : Nat} {t : TypeId} {cs : List Value} {y : DataW H × List MemPlace} (he : Try.prog.underlying e = some (.int k)) (hc : Try.prog.cellsOf e = 1) (ht : Try.prog.underlying t = some (.array n e)) (hf : DataW.trod enc Try.prog W 0 spare held fuel t cs = some y) (hn : cs.length = n) :
    ∀ i, i < n → ∃ x, cs[i]? = some (.int k x) ∧ (Lit.int k x).wf = true := by
  obtain ⟨xs, m, _, _, hl, hlen, hel⟩ := DataW.trod_array ht hf
  intro i hi
  have f := hel i hi
  rw [hc, Nat.mul_one] at f
  rw [List.getElem?_eq_getElem (by omega : i < xs.length)] at f
  obtain ⟨x, q, -, wf⟩ := DataW.trod_int he f
  refine ⟨x, ?_, wf⟩
  have h1 : ((cs.drop i).take 1)[0]? = some (.int k x) := by rw [q]; rfl
  simpa using h1
open Go.ChangeShapes Go.WideShapes Go.ChangeAt Go.RowKit
open Go.ChangeShapes Go.WideShapes Go.ChangeAt Go.RowKit
section
variable {H : Type} {enc : TypeId × Value → H} {W : World} {spare : Nat → Bool} {held : Bool}
theorem open_rowsB {t e e8 : TypeId} {k fuel : Nat} {cs : List Value} {y : DataW H × List MemPlace} (ht : Try.prog.underlying t = some (.slice e)) (he : Try.prog.underlying e = some (.array k e8)) (hc : Try.prog.cellsOf e = k) (h8 : Try.prog.underlying e8 = some (.int .u8)) (u1 : Try.prog.cellsOf e8 = 1) (hk : 0 < k)
    (hf : DataW.trod enc Try.prog W 0 spare held fuel t cs = some y) : ∃ a n c pv, cs = [.slice a n c] ∧ RowsB W a n k pv ∧ ∀ i j, i < n → j < k → 0 ≤ pv i j ∧ pv i j ≤ 255 := by
  rcases DataW.trod_slice ht hf with ⟨hcs, -⟩ | ⟨x, len, cap, elems, rest, nf, -, rfl, -, -, -, -, hlen, hel, -, -⟩
  · exact ⟨none, 0, 0, fun _ _ => 0, hcs, .inl rfl, fun i j hi => by omega⟩
  · have key : ∀ i j, i < len → j < k → ∃ z, W.cell? ((x.add (i * k)).add j) = some (.int .u8 z) ∧ 0 ≤ z ∧ z ≤ 255 := by
      intro i j hi hj
      have f := hel i hi
      rw [hc, List.getElem?_eq_getElem (by omega : i < elems.length), Option.bind_eq_some_iff] at f
      obtain ⟨cs', h1, h2⟩ := f
      obtain ⟨-, h3, h4⟩ := World.cells?_some h1
      obtain ⟨z, e, w⟩ := open_arr h8 u1 he h2 h3 j hj
      exact ⟨z, (h4 j hj).trans e, bounds_u8 w⟩
    by_cases h0 : len = 0
    · subst h0
      exact ⟨some x, 0, cap, fun _ _ => 0, rfl, .inl rfl, fun i j hi => by omega⟩
    obtain ⟨b, off, spot⟩ := x
    obtain ⟨z0, hz0, -⟩ := key 0 0 (by omega) hk
    have hspot : spot = none := by simpa [Addr.add] using World.cell?_spot hz0
    subst hspot
    have ea : ∀ i j, ((⟨b, off, none⟩ : Addr).add (i * k)).add j = ⟨b, off + i * k + j, none⟩ := fun i j => by rw [add_plain, add_plain]
    have key2 : ∀ i j, i < len → j < k → ∃ z, W.cell? ⟨b, off + i * k + j, none⟩ = some (.int .u8 z) ∧ 0 ≤ z ∧ z ≤ 255 := fun i j hi hj => by
      obtain ⟨z, e, w⟩ := key i j hi hj
      rw [ea] at e
      exact ⟨z, e, w⟩
    rw [ea] at hz0
    refine ⟨some ⟨b, off, none⟩, len, cap, fun i j => if h : i < len ∧ j < k then Classical.choose (key2 i j h.1 h.2) else 0, rfl, .inr ⟨b, off, rfl, lt_of_cell1 (a := ⟨b, off + 0 * k + 0, none⟩) hz0, fun i j hi hj => ?_⟩, fun i j hi hj => ?_⟩
    · simp only [dif_pos (And.intro hi hj)]
      exact (Classical.choose_spec (key2 i j hi hj)).1
    · simp only [dif_pos (And.intro hi hj)]
      exact (Classical.choose_spec (key2 i j hi hj)).2
theorem open_bytesT {fuel : Nat} {cs : List Value} {y : DataW H × List MemPlace} (hf : DataW.trod enc Try.prog W 0 spare held fuel 58 cs = some y) : ∃ a n c bs, cs = [.slice a n c] ∧ ByV W a n bs := by
  rcases open_ints (k := .u8) Try.underlying58 Try.underlying5 (by kernel_rfl) hf with ⟨hcs, _⟩ | ⟨x, l, c', zs, hcs, _, hl, hm, hz, _, hcell, hwz⟩
  · exact ⟨none, 0, 0, fun _ => 0, hcs, .inl rfl⟩
  · refine ⟨some x, l, c', fun i => zs.getD i 0, hcs, ?_⟩
    by_cases h0 : l = 0
    · exact .inl h0
    · obtain ⟨b, off, spot⟩ := x
      have hz' : l ≤ zs.length := by rw [hz]; split <;> omega
      have hc := hcell 0 (by omega)
      have hspot : spot = none := by simpa [Addr.add] using World.cell?_spot hc
      subst hspot
      refine .inr ⟨b, off, rfl, ⟨lt_of_cell1 (a := (⟨b, off, none⟩ : Addr).add 0) hc, fun i hi => ?_⟩, by unfold maxLen at hm; omega, fun i hi => ?_⟩
      · have h := hcell i (by omega)
        have ea : ((⟨b, off, none⟩ : Addr).add i) = ⟨b, off + i, none⟩ := add_plain b off i
        rw [ea] at h
        rw [h]
      · have hlt : i < zs.length := by omega
        have := hwz (zs[i]) (List.getElem_mem hlt)
        simp only [List.getD_eq_getElem?_getD, List.getElem?_eq_getElem hlt, Option.getD_some]
        exact bounds_u8 this
end
def bvD (np : Nat) (pv : Nat → Nat → Int) (i j : Nat) : Int := if i < np then (if j < 6 then pv i j else 0) else if i < 5 then [(i : Int), 120, 20, 7, 30, 20].getD j 0 else 0
def fvD (nf : Nat) (pv : Nat → Nat → Int) (i j : Nat) : Int := if i < nf then (if j < 3 then pv i j else 0) else [80, 128, 36].getD j 0
theorem ware_b {np nf : Nat} {pv qv : Nat → Nat → Int} (hp : ∀ i j, i < np → j < 6 → 0 ≤ pv i j ∧ pv i j ≤ 255) (hq : ∀ i j, i < nf → j < 3 → 0 ≤ qv i j ∧ qv i j ≤ 255) : WareB np nf (bvD np pv) (fvD nf qv) := by
  refine ⟨fun i j => ?_, fun i j => ?_, fun i h1 h2 => ?_, fun i h1 => ?_⟩
  · unfold bvD
    split
    · split
      · exact hp i j (by assumption) (by assumption)
      · omega
    · split
      · match j with
        | 0 => show 0 ≤ (i : Int) ∧ (i : Int) ≤ 255; omega
        | 1 => show (0 : Int) ≤ 120 ∧ (120 : Int) ≤ 255; omega
        | 2 => show (0 : Int) ≤ 20 ∧ (20 : Int) ≤ 255; omega
        | 3 => show (0 : Int) ≤ 7 ∧ (7 : Int) ≤ 255; omega
        | 4 => show (0 : Int) ≤ 30 ∧ (30 : Int) ≤ 255; omega
        | 5 => show (0 : Int) ≤ 20 ∧ (20 : Int) ≤ 255; omega
        | q + 6 => simp
      · omega
  · unfold fvD
    split
    · split
      · exact hq i j (by assumption) (by assumption)
      · omega
    · match j with
      | 0 => show (0 : Int) ≤ 80 ∧ (80 : Int) ≤ 255; omega
      | 1 => show (0 : Int) ≤ 128 ∧ (128 : Int) ≤ 255; omega
      | 2 => show (0 : Int) ≤ 36 ∧ (36 : Int) ≤ 255; omega
      | q + 3 => simp
  · have e : ∀ j, bvD np pv i j = [(i : Int), 120, 20, 7, 30, 20].getD j 0 := fun j => by unfold bvD; rw [if_neg (by omega), if_pos h2]
    exact ⟨e 0, e 1, e 2, e 3, e 4, e 5⟩
  · have e : ∀ j, fvD nf qv i j = [80, 128, 36].getD j 0 := fun j => by unfold fvD; rw [if_neg (by omega)]
    exact ⟨e 0, e 1, e 2⟩
theorem rowsB_eq {W : World} {a : Option Addr} {n k : Nat} {pv qv : Nat → Nat → Int} (h : RowsB W a n k pv) (e : ∀ i j, i < n → j < k → qv i j = pv i j) : RowsB W a n k qv := by
  rcases h with h | ⟨b, o, e1, h1, h2⟩
  · exact .inl h
  · exact .inr ⟨b, o, e1, h1, fun i j hi hj => by rw [e i j hi hj]; exact h2 i j hi hj⟩
theorem open_ware {H : Type} {enc : TypeId × Value → H} {W : World} {r : Reach} {b0 : Nat} {spare : Nat → Bool} {held : Bool} {v : Value} {d : DataW H} {ps : List MemPlace}
    (hv : Value.okWide Try.prog W r b0 60 v) (h : DataW.Trod enc Try.prog W 0 spare held 60 v d ps) :
    ∃ ap af ay np cp nf cf nb cb bv fb bs, v = .agg #[.slice ap np cp, .slice af nf cf, .slice ay nb cb] ∧ RowsB W ap np 6 bv ∧ RowsB W af nf 3 fb ∧ WareB np nf bv fb ∧ ByV W ay nb bs := by
  obtain ⟨cs, rfl, hsz⟩ := okWide_struct Try.underlying60 hv
  obtain ⟨fuel, hf⟩ := h
  obtain ⟨xs, n, _, _, hl, hlen, hfld⟩ := DataW.trod_struct Try.underlying60 hf
  have e3 : Try.prog.cellsOf 60 = 3 := by kernel_rfl
  rw [e3] at hsz
  have c1 : Try.prog.cellsOf 56 = 1 := by kernel_rfl
  have c2 : Try.prog.cellsOf 57 = 1 := by kernel_rfl
  have c3 : Try.prog.cellsOf 58 = 1 := by kernel_rfl
  obtain ⟨l⟩ := cs
  match l, hsz with
  | [x0, x1, x2], _ =>
    match xs, hlen with
    | [y0, y1, y2], _ =>
      have f0 : DataW.trod enc Try.prog W 0 spare held n 56 ((List.drop 0 [x0, x1, x2]).take (Try.prog.cellsOf 56)) = some y0 := hfld 0 _ rfl
      have f1 : DataW.trod enc Try.prog W 0 spare held n 57 ((List.drop 1 [x0, x1, x2]).take (Try.prog.cellsOf 57)) = some y1 := hfld 1 _ rfl
      have f2 : DataW.trod enc Try.prog W 0 spare held n 58 ((List.drop 2 [x0, x1, x2]).take (Try.prog.cellsOf 58)) = some y2 := hfld 2 _ rfl
      rw [c1] at f0; rw [c2] at f1; rw [c3] at f2
      change DataW.trod enc Try.prog W 0 spare held n 56 [x0] = some y0 at f0
      change DataW.trod enc Try.prog W 0 spare held n 57 [x1] = some y1 at f1
      change DataW.trod enc Try.prog W 0 spare held n 58 [x2] = some y2 at f2
      obtain ⟨ap, np, cp, pv, q0, hp, gp⟩ := open_rowsB Try.underlying56 Try.underlying100 (by kernel_rfl) Try.underlying5 (by kernel_rfl) (by decide) f0
      obtain ⟨af, nf, cf, qv, q1, hq, gq⟩ := open_rowsB Try.underlying57 Try.underlying24 (by kernel_rfl) Try.underlying5 (by kernel_rfl) (by decide) f1
      obtain ⟨ay, nb, cb, bs, q2, hb⟩ := open_bytesT f2
      obtain rfl := (List.cons.inj q0).1
      obtain rfl := (List.cons.inj q1).1
      obtain rfl := (List.cons.inj q2).1
      exact ⟨_, _, _, _, _, _, _, _, _, bvD np pv, fvD nf qv, bs, rfl, rowsB_eq hp fun i j hi hj => by unfold bvD; rw [if_pos hi, if_pos hj], rowsB_eq hq fun i j hi hj => by unfold fvD; rw [if_pos hi, if_pos hj], ware_b gp gq, hb⟩
open Go.ChangeShapes Go.WideShapes Go.ChangeAt Go.RowKit
theorem open_v4 {H : Type} {enc : TypeId × Value → H} {W : World} {r : Reach} {b0 : Nat} {spare : Nat → Bool} {held : Bool} {v : Value} {d : DataW H} {ps : List MemPlace}
    (hv : Value.okWide Try.prog W r b0 22 v) (h : DataW.Trod enc Try.prog W 0 spare held 22 v d ps) :
    ∃ ws : Nat → Int, v = .agg #[.int .u8 (ws 0), .int .u8 (ws 1), .int .u8 (ws 2), .int .u8 (ws 3)] ∧ ∀ j, 0 ≤ ws j ∧ ws j ≤ 255 := by
  obtain ⟨cs, rfl, hsz⟩ := okWide_arr Try.underlying22 hv
  obtain ⟨fuel, hf⟩ := h
  have en : Try.prog.cellsOf 22 = 4 := by kernel_rfl
  have u1 : Try.prog.cellsOf 5 = 1 := by kernel_rfl
  rw [en] at hsz
  obtain ⟨l⟩ := cs
  match l, hsz with
  | [c0, c1, c2, c3], _ =>
    have A0 := open_arr (cs := [c0, c1, c2, c3]) Try.underlying5 u1 Try.underlying22 hf rfl
    obtain ⟨w0, e0, g0⟩ := A0 0 (by decide)
    obtain ⟨w1, e1, g1⟩ := A0 1 (by decide)
    obtain ⟨w2, e2, g2⟩ := A0 2 (by decide)
    obtain ⟨w3, e3, g3⟩ := A0 3 (by decide)
    obtain rfl := Option.some.inj e0
    obtain rfl := Option.some.inj e1
    obtain rfl := Option.some.inj e2
    obtain rfl := Option.some.inj e3
    refine ⟨fun j => [w0, w1, w2, w3].getD j 0, rfl, fun j => ?_⟩
    match j with
    | 0 => exact bounds_u8 g0
    | 1 => exact bounds_u8 g1
    | 2 => exact bounds_u8 g2
    | 3 => exact bounds_u8 g3
    | q + 4 => simp
end Go.Proofs.Ytolnpbpeifpbjaa
